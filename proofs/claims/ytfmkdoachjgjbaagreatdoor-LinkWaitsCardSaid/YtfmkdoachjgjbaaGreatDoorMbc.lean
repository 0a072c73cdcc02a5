/-
  wire.May.
-/
import Derived.Test.YtfmkdoachjgjbaaGreatDoorFld3
import Derived.Test.YtfmkdoachjgjbaaGreatDoorMba
import Derived.Maps.OwnSet
import Derived.Test.YtfmkdoachjgjbaaGreatDoorMai
import Derived.Test.YtfmkdoachjgjbaaGreatDoorMac
import Derived.Test.YtfmkdoachjgjbaaGreatDoorTxt
set_option maxRecDepth 100000
set_option maxHeartbeats 4000000
set_option linter.unusedVariables false
set_option linter.unusedSimpArgs false
namespace Go.Proofs.YtfmkdoachjgjbaaGreatDoor
section
open Go.RowKit
def qfh(xs:List Fld)(m:MsgV):MsgV:=xs.foldl (fun m x=>x.zero m) m
theorem zero_len(x:Fld)(m:MsgV)(h:m.hash.length=32):(x.zero m).hash.length=32:=by cases x<;>first | exact h | exact ql
theorem qyq{xs:List Fld}{i:Nat}{x:Fld}(h:xs[i]? = some x)(m:MsgV):qfh (xs.take (i+1)) m=x.zero (qfh (xs.take i) m):=by
 unfold qfh;rw[List.take_add_one,h,List.foldl_append];rfl
theorem qvs(base A:Nat)(v:Value)(xs:List Fld)(m:MsgV)(w:World)(hv:FldsO base w v xs)(Y:MsB w A m)(Z:A<base)(b9:xs.length≤100) :
  Calls Tryz.prog 139 #[qhd,v,.pointer (some ⟨A,0,none⟩)] w fun e w'=>e = .returned (.tuple #[])∧MsB w' A (qfh xs m)∧Upd (· = A) w w':=by
 obtain⟨vs,q,b7,M⟩:=hv
 obtain⟨va,b4,P⟩:=zv q
 have p:∀(i:Nat) (u:Value),vs[i]? = some u→∃g,va=some ⟨g,0,none⟩∧base≤g∧w.cell? ⟨g,i,none⟩=some u:=by
  intro i u I;have O:=(List.getElem?_eq_some_iff.1 I).1;rcases q.2 with ⟨e,e0⟩ | ⟨g,cap,X,e,H,hg,_,_,hs,ht⟩
  ·omega
  ·rw[P] at e;injection e with e1;refine⟨g,e1,H,?_⟩;rw[qg hg];have:X.toList[i]? = some u:=by
    rw[←I,←ht,List.getElem?_take_of_lt (by omega)]
   rwa [Array.getElem?_toList] at this
 subst P
 clear q
 have C:=qb p
 have U:=qb M
 clear p M
 unfold qhd
 go_enter Tryz.func139,Tryz.ntmps139
 go_upto_region 1 with fail
 have S:qu w (w.alloc (.cells #[.pointer none,.pointer none] 234)):=(Upd.refl _ _).alloc _
 have H:=qh w (.cells #[.pointer none,.pointer none] 234)
 have a6:=Y.lt
 generalize w.alloc (.cells #[.pointer none,.pointer none] 234)=w1 at S H ⊢
 have K:A≠w.heap.size:=by omega
 generalize w.heap.size=B at H K ⊢
 have HB:=qb H
 have T:=qb (Y.new S)
 have W:=qb S
 have b8:(xs.length:Int)≤100:=by omega
 clear H Y S a6
 go_wp2_with fail
 go_loopw [7,10] (fun _ iv wr=>∃i:Nat,iv = .int .i64 (i:Int)∧i≤xs.length∧Hid (MsB wr A (qfh (xs.take i) m))∧Upd (· = A) w1 wr) (fun _ iv _=>xs.length-(intOf iv).toNat)
 case atStart=>exact⟨0,rfl,Nat.zero_le _,T,Upd.refl _ _⟩
 case round =>
  obtain⟨i,rfl,hi,hM,J⟩:=hrel;obtain⟨E,rfl⟩:∃E:World,E=wr:=⟨_,rfl⟩;by_cases O:i<xs.length
  ·obtain⟨x,hx⟩:∃x,xs[i]? = some x:=⟨_,List.getElem?_eq_getElem O⟩;obtain⟨u,I⟩:∃u,vs[i]? = some u:=⟨_,List.getElem?_eq_getElem (by omega)⟩;obtain⟨g,rfl,b5,hc⟩:=qa C i u I;have hf:=qa U i x u hx I;have N:qhm base E u x:=(hf.new (qa W)).upd J (fun k hk e=>by omega);have a7:E.cell? ⟨g,i,none⟩=some u:=J.cell ((qa W).cell hc (fun h=>h)) (by show ¬g=A;omega);have z:=J.old (qa HB) (fun e=>K e.symm);have rP:=qai z 2 rfl;have d0:E.cell? ⟨B,0,none⟩=some (.pointer none):=qg z 0;have d1:E.cell? ⟨B,1,none⟩=some (.pointer none):=qg z 1;obtain⟨F,b3,rfl,hE,f⟩:=q0v x base A _ u E N (qa hM) Z;have R:=qyq hx m;have HZ:=qb R;have b6:(i:Int)<(xs.length:Int):=by omega
   unfold qhd at f;clear hf N hc z R hx I;go_wp2_with fail;refine f.mono ?_;rintro e w3 ⟨rfl,L,u3⟩;have a8:=J.trans u3;have V:=qb L;clear f rP d0 d1 a7 hE L u3 J;go_wp2_with fail;go_roundw
   case rel=>exact⟨i+1,by go_num,by omega,by rw[qa HZ];exact V,a8⟩
   case measure=>simp[intOf];omega
  ·obtain rfl:i=xs.length:=by omega
   rw[List.take_length] at hM;go_wp2_with fail;go_end0;exact⟨rfl,qa hM,((qa W).mono (fun _ _ h=>h.elim)).trans J⟩
theorem Tryz.flatMsg:qc9 Tryz.prog 5 101=some (.int .i64 :: .int .u32 :: .int .u64 :: .int .u64::(List.replicate 32 (.int .u8)++[.int .i64,.int .i64])):=by kernel_rfl
theorem Tryz.eqMsg:eqB Tryz.prog 5 101=true:=by kernel_rfl
theorem Tryz.aggMsg:qgr Tryz.prog 101=true:=by kernel_rfl
theorem wfI{n:Int}(h : -9223372036854775808≤n∧n≤9223372036854775807):(Lit.int .i64 n).wf=true:=by
 simp[Lit.wf,IntKind.min,IntKind.max,IntKind.signed,IntKind.bits];omega
theorem wfU{n:Int}(h:0≤n∧n<18446744073709551616):(Lit.int .u64 n).wf=true:=by
 simp[Lit.wf,IntKind.min,IntKind.max,IntKind.signed,IntKind.bits];omega
theorem wfW{n:Int}(h:0≤n∧n<4294967296):(Lit.int .u32 n).wf=true:=by
 simp[Lit.wf,IntKind.min,IntKind.max,IntKind.signed,IntKind.bits];omega
theorem qut{m:MsgV}(h:MsgOk m):qdx (.int .i64 :: .int .u32 :: .int .u64 :: .int .u64::(List.replicate 32 (.int .u8)++[.int .i64,.int .i64])) m.cells :=
 ⟨_,_,rfl,⟨_,rfl,wfI h.kind⟩,_,_,rfl,⟨_,rfl,wfW h.ch⟩,_,_,rfl,⟨_,rfl,wfU h.id⟩,_,_,rfl,⟨_,rfl,wfU h.amount⟩,qdx.app (qg1 h.len h.hash) ⟨_,_,rfl,⟨_,rfl,wfI h.expiry⟩,_,_,rfl,⟨_,rfl,wfI h.number⟩,rfl⟩⟩
def eqMsg(x y:Value):Sem Value:=binOp .eql 101 x y
theorem qt0(x y:Value):binOp .eql 101 x y=eqMsg x y:=rfl
theorem q0d{a b:MsgV}(z:a.hash.length=32)(C:b.hash.length=32)(h:a.cells=b.cells):a=b:=by
 obtain⟨a1,a2,a3,a4,a5,E,F⟩:=a;obtain⟨b1,b2,H,I,m,J,K⟩:=b;unfold MsgV.cells at h;simp only[List.cons.injEq,Value.int.injEq,true_and] at h;obtain⟨rfl,rfl,rfl,rfl,h⟩:=h;have f:a5.length=32:=z;have i:m.length=32:=C;have:=List.append_inj h (by simp[f,i]);obtain⟨q,p⟩:=this;have v:a5=m:=qiw q;simp only[List.cons.injEq,Value.int.injEq,true_and,and_true] at p;obtain⟨rfl,rfl⟩:=p;rw[v]
instance:DecidableEq MsgV:=fun a b =>
 decidable_of_iff (a.kind=b.kind∧a.ch=b.ch∧a.id=b.id∧a.amount=b.amount∧a.hash=b.hash∧a.expiry=b.expiry∧a.number=b.number)
  ⟨by rintro ⟨h1,h2,h3,h4,h5,h6,h7⟩;cases a;cases b;simp_all,by rintro rfl;exact⟨rfl,rfl,rfl,rfl,rfl,rfl,rfl⟩⟩
theorem zb2{a b:MsgV}(f:MsgOk a)(i:MsgOk b)(w:World):(eqMsg (.agg a.cells.toArray) (.agg b.cells.toArray)).run Tryz.prog w = .ok (.bool (decide (a=b))) w:=by
 refine qh8 5 (by decide) Tryz.eqMsg Tryz.flatMsg Tryz.aggMsg (qut f) (qut i) (decide (a=b)) ?_ w;constructor
 ·intro e;rw[of_decide_eq_true e]
 ·intro e;exact decide_eq_true (q0d f.len i.len e)
theorem zao{m:MsgV}(h:MsgOk m)(x:Fld):MsgOk (x.zero m):=by
 have z:∀b∈ze,0≤b∧b≤255:=qca;cases x
 ·exact⟨h.kind,show (0:Int)≤0∧(0:Int)<4294967296 by decide,h.id,h.amount,h.len,h.hash,h.expiry,h.number⟩
 ·exact⟨h.kind,h.ch,show (0:Int)≤0∧(0:Int)<18446744073709551616 by decide,h.amount,h.len,h.hash,h.expiry,h.number⟩
 ·exact⟨h.kind,h.ch,h.id,show (0:Int)≤0∧(0:Int)<18446744073709551616 by decide,h.len,h.hash,h.expiry,h.number⟩
 ·exact⟨h.kind,h.ch,h.id,h.amount,ql,z,h.expiry,h.number⟩
 ·exact⟨h.kind,h.ch,h.id,h.amount,h.len,h.hash,show (-9223372036854775808:Int)≤0∧(0:Int)≤9223372036854775807 by decide,h.number⟩
 ·exact⟨h.kind,h.ch,h.id,h.amount,h.len,h.hash,h.expiry,show (-9223372036854775808:Int)≤0∧(0:Int)≤9223372036854775807 by decide⟩
theorem q8o(xs:List Fld):∀ {m:MsgV},MsgOk m→MsgOk (qfh xs m):=by
 induction xs with
 | nil=>intro m h;exact h
 | cons x xs f=>intro m h;exact f (zao h x)
def qa9(k:Int):MsgV:=⟨k,0,0,0,ze,0,0⟩
theorem qf3{k:Int}(h : -9223372036854775808≤k∧k≤9223372036854775807):MsgOk (qa9 k) :=
 ⟨h,show (0:Int)≤0∧(0:Int)<4294967296 by decide,show (0:Int)≤0∧(0:Int)<18446744073709551616 by decide,show (0:Int)≤0∧(0:Int)<18446744073709551616 by decide,ql,qca,show (-9223372036854775808:Int)≤0∧(0:Int)≤9223372036854775807 by decide,show (-9223372036854775808:Int)≤0∧(0:Int)≤9223372036854775807 by decide⟩
theorem qyp(xs:List Fld):∀m:MsgV,(qfh xs m).kind=m.kind:=by
 induction xs with
 | nil=>intro m;rfl
 | cons x xs f=>intro m;exact(f _).trans (by cases x<;>rfl)
def qaf(m:MsgV):Bool :=
 match fieldsOf m.kind with
 | none=>false
 | some xs=>if m.expiry<0∨1073741824<m.expiry∨m.number<0∨65535<m.number∨1125899906842624<m.amount then false else decide (qfh xs m=qa9 m.kind)
theorem qus{m:MsgV}(h:fieldsOf m.kind=none):qaf m=false:=by unfold qaf;rw[h]
theorem q6z{m:MsgV}{xs:List Fld}(h:fieldsOf m.kind=some xs):qaf m=if m.expiry<0∨1073741824<m.expiry∨m.number<0∨65535<m.number∨1125899906842624<m.amount then false else decide (qfh xs m=qa9 m.kind):=by unfold qaf;rw[h]
theorem qhx{k:Int}{xs:List Fld}(h:fieldsOf k=some xs):xs.length≤100:=by
 unfold fieldsOf at h
 repeat' (split at h)
 all_goals first
  | (injection h with h;subst h;decide)
  | cases h
attribute [local go_sem ↓ high] qy qz zb zf qt0
attribute [local go_sem] qas qat qax qv
theorem qtl(k:Int)(w:World):(qis #[(0,.int .i64 k)]).run Tryz.prog w = .ok (.agg (qa9 k).cells.toArray) w:=run_build w _ _ _ (by kernel_rfl)
theorem qh2(m:MsgV)(L:MsgOk m)(w:World):Calls Tryz.prog 143 #[.agg m.cells.toArray] w (qa1 (.bool (qaf m)) w):=by
 go_enter Tryz.func143,Tryz.ntmps143;go_upto_region 1 with fail;have H:=qan w m L.len;have N:qu w (w.alloc (.cells m.cells.toArray 101)):=(Upd.refl _ _).alloc _;generalize w.alloc (.cells m.cells.toArray 101)=w1 at N H ⊢;obtain⟨A,I⟩:∃A,A=w.heap.size:=⟨_,rfl⟩;rw[←I] at H ⊢;have a6:w.heap.size≤A:=by omega
 clear I;obtain⟨Y,-,-,-,-,-,-⟩:=H.cells;have X:=qb H;clear H;cases E:fieldsOf m.kind with
 | none =>
  have q:=qb (qus E);have J:=qmg m.kind E w1;clear E L;go_wp2_with fail;refine J.mono ?_;rintro e w2 ⟨rfl,M⟩;have p:=N.trans M;clear J Y;go_wp2_with fail;go_ret;exact⟨by rw[qa q];rfl,p⟩
 | some xs =>
  have q:=qb (q6z E);have S:=qhx E;have J:=qj6 m.kind xs E w1;have P:=L.kind;have HM:=qb L;clear E L;go_wp2_with fail;refine J.mono ?_;rintro e w2 ⟨v,rfl,M,K⟩;have f:=(qa X).new M;obtain⟨-,-,-,m3,T,U,-⟩:=f.cells;have p:=N.trans M;have O:=qb K;have z:=(qa X).lt;clear J Y K N M;by_cases e1:m.expiry<0
  ·rw[if_pos (.inl e1)] at q;clear f;go_wp2_with fail;go_ret;exact⟨by rw[qa q];rfl,p⟩
  by_cases e2:1073741824<m.expiry
  ·rw[if_pos (.inr (.inl e2))] at q;clear f;go_wp2_with fail;go_ret;exact⟨by rw[qa q];rfl,p⟩
  by_cases e3:m.number<0
  ·rw[if_pos (.inr (.inr (.inl e3)))] at q;clear f;go_wp2_with fail;go_ret;exact⟨by rw[qa q];rfl,p⟩
  by_cases e4:65535<m.number
  ·rw[if_pos (.inr (.inr (.inr (.inl e4))))] at q;clear f;go_wp2_with fail;go_ret;exact⟨by rw[qa q];rfl,p⟩
  by_cases e5:1125899906842624<m.amount
  ·rw[if_pos (.inr (.inr (.inr (.inr e5))))] at q;clear f;go_wp2_with fail;go_ret;exact⟨by rw[qa q];rfl,p⟩
  rw[if_neg (by omega)] at q;have F:=qvs w1.heap.size A v xs m w2 (qa O) f z S;unfold qhd at F;clear f;go_wp2_with fail;refine F.mono ?_;rintro e w3 ⟨rfl,C,Z⟩;have V:qu w w3:=p.then Z (fun i hi e=>by omega);have hz:=qyp xs m;have R:=q8o xs (qa HM);obtain⟨z0,-,-,-,-,-,-⟩:=C.cells;rw[hz] at z0;have rM:=C.row;have a7:=fun W=>qtl m.kind W
  have a8:=fun W=>zb2 R (qf3 P) W
  clear F Z m3 T U C;go_wp2_with fail;go_ret;exact⟨by rw[qa q];rfl,V⟩
end
section
open Go.RowKit
def fnR(v:Value):Option (DataW Unit × List MemPlace) :=
 match v with
 | .func (.func F) a b=>if a.size=0∧b.size=0 then some (.lit (.int .i64 F),[]) else none
 | .nilFunc=>some (.lit (.int .i64 (-1)),[])
 | _=>none
theorem q9i{v:Value}{F:Nat}{ps:List MemPlace}(h:fnR v=some (.lit (.int .i64 F),ps)):v = .func (.func F) #[] #[]:=by
 unfold fnR at h;split at h
 ·split at h
  ·rename_i f;simp only[Option.some.injEq,Prod.mk.injEq,DataW.lit.injEq,Lit.int.injEq,true_and] at h;have e:_=F:=Int.ofNat.inj h.1;rw[Array.eq_empty_of_size_eq_zero f.1,Array.eq_empty_of_size_eq_zero f.2,e]
  ·cases h
 ·simp only[Option.some.injEq,Prod.mk.injEq,DataW.lit.injEq,Lit.int.injEq,true_and] at h;omega
 ·cases h
def hearD:DataW Unit:=((((((((DataW.map []).put (.int .i64 3) (.lit (.int .i64 176))).put (.int .i64 4) (.lit (.int .i64 177))).put (.int .i64 5) (.lit (.int .i64 178))).put (.int .i64 6) (.lit (.int .i64 179))).put (.int .i64 7) (.lit (.int .i64 180))).put (.int .i64 8) (.lit (.int .i64 181))).put (.int .i64 9) (.lit (.int .i64 182)))
def qic(w:World)(b:Nat):Prop:=w.ownsMap Tryz.prog 3 fnR b 7 hearD
theorem qug(w:World):Calls Tryz.prog 144 #[] w fun e w'=>∃b,e = .returned (.map (some b))∧qu w w'∧qic w' b:=by
 have K:=Maps.int_keyed Tryz.underlying3;have F:=World.ownsMap_made w Tryz.prog 3 fnR;have P:qu w (w.alloc (.map #[] 0)):=(Upd.refl _ _).alloc _;have key:∀k:Int,(Lit.int .i64 k).wf=true→keyOf Tryz.prog 3 (.int .i64 k)=some (.int .i64 k):=fun k i=>Maps.keyOf_int_mk Tryz.underlying3 i
 have U:=@run_makeMap Tryz.prog;obtain⟨w1,W,H,m⟩:=F.update K Tryz.underlying241 (by decide) (key 3 (by decide)) (val:= .func (.func 176) #[] #[]) (d:= .lit (.int .i64 176)) (ps:=[]) rfl;obtain⟨w2,X,I,p⟩:=H.update K Tryz.underlying241 (by decide) (key 4 (by decide)) (val:= .func (.func 177) #[] #[]) (d:= .lit (.int .i64 177)) (ps:=[]) rfl;obtain⟨w3,Y,J,q⟩:=I.update K Tryz.underlying241 (by decide) (key 5 (by decide)) (val:= .func (.func 178) #[] #[]) (d:= .lit (.int .i64 178)) (ps:=[]) rfl;obtain⟨w4,Z,L,v⟩:=J.update K Tryz.underlying241 (by decide) (key 6 (by decide)) (val:= .func (.func 179) #[] #[]) (d:= .lit (.int .i64 179)) (ps:=[]) rfl;obtain⟨w5,r5,M,z⟩:=L.update K Tryz.underlying241 (by decide) (key 7 (by decide)) (val:= .func (.func 180) #[] #[]) (d:= .lit (.int .i64 180)) (ps:=[]) rfl;obtain⟨w6,r6,N,C⟩:=M.update K Tryz.underlying241 (by decide) (key 8 (by decide)) (val:= .func (.func 181) #[] #[]) (d:= .lit (.int .i64 181)) (ps:=[]) rfl;obtain⟨R,r7,O,E⟩:=N.update K Tryz.underlying241 (by decide) (key 9 (by decide)) (val:= .func (.func 182) #[] #[]) (d:= .lit (.int .i64 182)) (ps:=[]) rfl;have V:qu w R:=by
  have f:∀ {a b:World},a.grownBy b (some w.heap.size)→qu w a→qu w b:=fun g n=>n.grown g (fun k i T=>by injection i with i;omega)
  exact f E (f C (f z (f v (f q (f p (f m P))))))
 have S:qic R w.heap.size:=O;clear key K F H I J L M N O m p q v z C E P;go_enter Tryz.func144,Tryz.ntmps144;go_wp2_with fail;go_ret;exact⟨_,rfl,V,S⟩
theorem qet{w:World}{b:Nat}(h:qic w b)(k:Int)(F:Nat)(m:(Lit.int .i64 k).wf=true)(i:Maps.has hearD (.int .i64 k)=true)(hd:hearD.atKey (.int .i64 k) (.lit (.int .i64 (-1))) = .lit (.int .i64 F)) :
  (Instr.lookup 241 (.map (some b)) (.int .i64 k) true).run Tryz.prog w = .ok (.tuple #[.func (.func F) #[] #[],.bool true]) w:=by
 obtain⟨v,ps,p,f⟩:=h.look_ok (Maps.int_keyed Tryz.underlying3) Tryz.underlying241 (z:= .nilFunc) (zd:= .lit (.int .i64 (-1))) (zp:=[]) (by kernel_rfl) rfl (Maps.keyOf_int_mk Tryz.underlying3 m)
 rw[hd] at f
 rw[p,q9i f,i]
theorem zce{w:World}{b:Nat}(h:qic w b):(Instr.lookup 241 (.map (some b)) (.int .i64 3) true).run Tryz.prog w = .ok (.tuple #[.func (.func 176) #[] #[],.bool true]) w:=qet h 3 _ (by decide) (by decide +kernel) rfl
theorem zcf{w:World}{b:Nat}(h:qic w b):(Instr.lookup 241 (.map (some b)) (.int .i64 4) true).run Tryz.prog w = .ok (.tuple #[.func (.func 177) #[] #[],.bool true]) w:=qet h 4 _ (by decide) (by decide +kernel) rfl
theorem zcg{w:World}{b:Nat}(h:qic w b):(Instr.lookup 241 (.map (some b)) (.int .i64 5) true).run Tryz.prog w = .ok (.tuple #[.func (.func 178) #[] #[],.bool true]) w:=qet h 5 _ (by decide) (by decide +kernel) rfl
theorem zch{w:World}{b:Nat}(h:qic w b):(Instr.lookup 241 (.map (some b)) (.int .i64 6) true).run Tryz.prog w = .ok (.tuple #[.func (.func 179) #[] #[],.bool true]) w:=qet h 6 _ (by decide) (by decide +kernel) rfl
theorem zci{w:World}{b:Nat}(h:qic w b):(Instr.lookup 241 (.map (some b)) (.int .i64 7) true).run Tryz.prog w = .ok (.tuple #[.func (.func 180) #[] #[],.bool true]) w:=qet h 7 _ (by decide) (by decide +kernel) rfl
theorem zcj{w:World}{b:Nat}(h:qic w b):(Instr.lookup 241 (.map (some b)) (.int .i64 8) true).run Tryz.prog w = .ok (.tuple #[.func (.func 181) #[] #[],.bool true]) w:=qet h 8 _ (by decide) (by decide +kernel) rfl
theorem zck{w:World}{b:Nat}(h:qic w b):(Instr.lookup 241 (.map (some b)) (.int .i64 9) true).run Tryz.prog w = .ok (.tuple #[.func (.func 182) #[] #[],.bool true]) w:=qet h 9 _ (by decide) (by decide +kernel) rfl
end
section
open Go.RowKit Go.Sort
theorem get!_of{X:List Item}{n:Nat}{x:Item}(h:X[n]? = some x):X[n]! = x:=by rw[List.getElem!_eq_getElem?_getD,h];rfl
def qnt(w:World)(g off:Nat)(X:List Item):Prop :=
 ∃C T f,w.heap[g]? = some (.cells C T f)∧off+X.length*36≤C.size∧∀i x,X[i]? = some x→∀j,j<36→C[off+i*36+j]? = (zi x)[j]?
theorem qnt.row{w:World}{g off:Nat}{xs:List Item}(h:qnt w g off xs){i:Nat}{x:Item}(p:xs[i]? = some x):zj w g (off+i*36) 36=some (zi x).toArray:=by
 obtain⟨C,T,E,q,F,v⟩:=h;have m:i<xs.length:=(List.getElem?_eq_some_iff.1 p).1;have f:off+i*36+36≤C.size:=by have:=Nat.mul_le_mul_right 36 (show i+1≤xs.length from m);omega
 rw[qbx q _ _ f];congr 1;apply Array.ext';apply List.ext_getElem?;intro j;rw[Array.getElem?_toList,Array.getElem?_extract];by_cases z:j<36
 ·rw[if_pos (by omega),v i x p j z]
 ·rw[if_neg (by omega),List.getElem?_eq_none (by rw[qcc];omega)]
theorem qnt.upd{S:Nat→Prop}{w w':World}{b off:Nat}{xs:List Item}(h:qnt w b off xs)(u:Upd S w w')(m:¬S b):qnt w' b off xs:=by
 obtain⟨C,T,f,i,r⟩:=h;exact⟨C,T,f,u.old i m,r⟩
theorem qc7.toR{w:World}{g off:Nat}{xs:List Item}(h:qc7 w g off xs):qnt w g off xs:=by
 obtain⟨C,T,m,v,p⟩:=h;refine⟨C,T,_,m,v,fun i x f j q=> ?_⟩;rw[p i (List.getElem?_eq_some_iff.1 f).1 j q,get!_of f]
def qeb(w:World)(v:Value)(X:List Item):Prop:=(∃a c,v = .slice a 0 c∧X=[])∨∃g off cap,v = .slice (some ⟨g,off,none⟩) X.length cap∧qnt w g off X
theorem qeb.new{w w':World}{v:Value}{X:List Item}(h:qeb w v X)(u:qu w w'):qeb w' v X:=by
 rcases h with h | ⟨g,off,cap,e,h⟩
 ·exact .inl h
 ·exact .inr ⟨g,off,cap,e,h.upd u (fun h=>h)⟩
theorem qyu.toR{w:World}{v:Value}{X:List Item}(h:qyu w v X):qeb w v X:=by
 rcases h with h | ⟨g,cap,e,h⟩
 ·exact .inl h
 ·exact .inr ⟨g,0,cap,e,h.toR⟩
theorem qeb.slice{w:World}{v:Value}{X:List Item}(h:qeb w v X):∃a c,v = .slice a X.length c:=by
 rcases h with ⟨_,_,rfl,rfl⟩ | ⟨g,off,cap,rfl,_⟩
 ·exact⟨_,_,rfl⟩
 ·exact⟨_,_,rfl⟩
theorem qlx{w:World}{base:Nat}{e:TypeId}{size:Nat}{v:Value}{n:Nat}{xs:List Value}(h:w.ownsRow base e size v n xs):∀k,v.ownBlock=some k→base≤k:=by
 intro k f;rcases h.2 with ⟨rfl,_⟩ | ⟨g,cap,i,rfl,m,_⟩
 ·simp[Value.ownBlock] at f
 ·simp[Value.ownBlock] at f;omega
theorem qeb.at{w:World}{a:Option Addr}{n c:Nat}{X:List Item}(h:qeb w (.slice a n c) X){i:Nat}{x:Item}(f:X[i]? = some x) :
  ∃b off,a=some ⟨b,off,none⟩∧n=X.length∧zj w b (off+i*36) 36=some (zi x).toArray:=by
 rcases h with ⟨_,_,e,rfl⟩ | ⟨b,off,cap,e,m⟩
 ·simp at f
 ·cases e;exact⟨b,off,rfl,rfl,m.row f⟩
end
section
open Go.RowKit
theorem qh3(g:Nat)(x:Int)(f:Nat)(q:Int)(s:ByteArray)(w:World)(p:q=f)(z:Wr w g s)(i:1≤f)(m:f≤8)(v:0≤x)(C:x<2 ^ (8*f))(E:s.size≤1073741824) :
  Calls Tryz.prog 92 #[.pointer (some ⟨g,0,none⟩),.int .u64 x,.int .i64 q] w fun e w'=>e = .returned (.int .i64 0)∧Upd (fun k=>k=g) w w'∧Wr w' g (s++zc x.toNat f):=by
 subst p
 obtain⟨n,rfl⟩:=Int.eq_ofNat_of_zero_le v
 rw[Int.toNat_natCast]
 exact qdo g n f s w z i m (by exact_mod_cast C) E
theorem qha(g:Nat)(x:Int)(s:ByteArray)(w:World)(i:Wr w g s)(f:0≤x)(m:x<18446744073709551616)(p:s.size≤1073741824) :
  Calls Tryz.prog 92 #[.pointer (some ⟨g,0,none⟩),.int .u64 x,.int .i64 8] w fun e w'=>e = .returned (.int .i64 0)∧Upd (fun k=>k=g) w w'∧Wr w' g (s++zc x.toNat 8) :=
 qh3 g x 8 8 s w rfl i (by decide) (by decide) f m p
theorem q68(g:Nat)(x:Int)(s:ByteArray)(w:World)(i:Wr w g s)(f:0≤x)(m:x<4294967296)(p:s.size≤1073741824) :
  Calls Tryz.prog 92 #[.pointer (some ⟨g,0,none⟩),.int .u64 x,.int .i64 4] w fun e w'=>e = .returned (.int .i64 0)∧Upd (fun k=>k=g) w w'∧Wr w' g (s++zc x.toNat 4) :=
 qh3 g x 4 4 s w rfl i (by decide) (by decide) f m p
theorem q67(g:Nat)(x:Int)(s:ByteArray)(w:World)(i:Wr w g s)(f:0≤x)(m:x<65536)(p:s.size≤1073741824) :
  Calls Tryz.prog 92 #[.pointer (some ⟨g,0,none⟩),.int .u64 x,.int .i64 2] w fun e w'=>e = .returned (.int .i64 0)∧Upd (fun k=>k=g) w w'∧Wr w' g (s++zc x.toNat 2) :=
 qh3 g x 2 2 s w rfl i (by decide) (by decide) f m p
theorem q66(g:Nat)(x:Int)(s:ByteArray)(w:World)(i:Wr w g s)(f:0≤x)(m:x<256)(p:s.size≤1073741824) :
  Calls Tryz.prog 92 #[.pointer (some ⟨g,0,none⟩),.int .u64 x,.int .i64 1] w fun e w'=>e = .returned (.int .i64 0)∧Upd (fun k=>k=g) w w'∧Wr w' g (s++zc x.toNat 1) :=
 qh3 g x 1 1 s w rfl i (by decide) (by decide) f m p
end
section
open Go.RowKit Go.Sort
def qf1(s:ByteArray)(x:Item):ByteArray:=s++zc (if x.offered then 1 else 0) 1++zc x.h.id.toNat 8++zc x.h.amount.toNat 8++strOfNums x.h.hash.toList++zc (x.h.expiry%18446744073709551616).toNat 8
def qqj(ch n A B:Int)(m:Nat):ByteArray:=zc ch.toNat 4++zc (n%18446744073709551616).toNat 8++zc A.toNat 8++zc B.toNat 8++zc (m%65536) 2
def qii(ch n A B:Int)(X:List Item):ByteArray:=X.foldl qf1 (qqj ch n A B X.length)
theorem quj(s:ByteArray)(x:Item):(qf1 s x).size=s.size+57:=by
 unfold qf1;simp only[ByteArray.size_append,qak,strOfNums_size];simp
theorem qoi(ch n A B:Int)(m:Nat):(qqj ch n A B m).size=30:=by
 unfold qqj;simp only[ByteArray.size_append,qak]
theorem qqg(X:List Item):∀s:ByteArray,(X.foldl qf1 s).size=s.size+57*X.length:=by
 induction X with
 | nil=>intro s;simp
 | cons x X f=>intro s;rw[List.foldl_cons,f,quj,List.length_cons];omega
theorem q04(X:List Item)(s:ByteArray){k:Nat}{x:Item}(h:X[k]? = some x):(X.take (k+1)).foldl qf1 s=qf1 ((X.take k).foldl qf1 s) x:=by
 rw[List.take_add_one,h];simp
def qrh:Array Value:=(.bool false :: .int .u64 0 :: .int .u64 0::(List.replicate 32 (.int .u8 0)++[.int .i64 0]):List Value).toArray
theorem q0o(s:ByteArray):(ByteArray.mk #[])++s=s:=by
 apply ByteArray.ext;simp
theorem qg2(x:Item)(i:Nat)(m:i<36){w:World}{b:Nat}{T:TypeId}{f:Nat × Nat}(h:w.heap[b]? = some (.cells (zi x).toArray T f)):w.cell? ⟨b,i,none⟩=(zi x)[i]? := by
 rw[qg h,List.getElem?_toArray]
theorem qub(x:Item){w:World}{b:Nat}{T:TypeId}{f:Nat × Nat}(h:w.heap[b]? = some (.cells (zi x).toArray T f)):zj w b 3 32=some (x.h.hash.toList.map (Value.int .u8)).toArray:=by
 rw[qbx h 3 32 (by simp[qcc])];congr 1;apply Array.ext';rw[Array.toList_extract];unfold zi qm;simp
theorem qy8(x:Item):(zi x)[35]? = some (.int .i64 x.h.expiry):=by
 unfold zi qm;rw[List.getElem?_cons_succ,List.getElem?_cons_succ,List.getElem?_cons_succ,List.getElem?_append_right (by simp)];simp
theorem Tryz.infoHashT:(Tryz.prog.info? 35).map (·.size)=some 32:=by kernel_rfl
def qzc(x:Value):Sem Value:=Instr.loadAt 35 x
theorem qpv(x:Value):Instr.loadAt 35 x=qzc x:=rfl
theorem q6n(b o:Nat)(w:World):(qzc (.pointer (some ⟨b,o,none⟩))).run Tryz.prog w=match zj w b o 32 with | some A=> .ok (.agg A) w | none=>qc6 Tryz.prog 35 w b o :=
 zy 35 32 _ Tryz.underlying35 rfl Tryz.infoHashT b o w
attribute [local go_sem ↓ high] qfk qpv
attribute [local go_sem] qnj q6n
theorem q8c(ch n A B:Int)(u:Value)(X:List Item)(hl:X.length≤1048576)(f1:∀x∈X,HtlcOk x.h)(w:World)(hc:0≤ch∧ch<4294967296)(hn : -9223372036854775808≤n∧n≤9223372036854775807)
  (hA:0≤A∧A<18446744073709551616) (hB:0≤B∧B<18446744073709551616) (hu:qeb w u X) :
  Calls Tryz.prog 157 #[.int .u32 ch,.int .i64 n,.agg #[.int .u64 A,.int .u64 B,u]] w (qa1 (.string (qii ch n A B X)) w):=by
 obtain⟨a,c,rfl⟩:=hu.slice
 go_enter Tryz.func157,Tryz.ntmps157
 go_upto_region 2 with fail
 have F:qu w ((w.alloc (.cells #[.int .u64 A,.int .u64 B,.slice a X.length c] 201)).alloc (.cells #[.string ⟨#[]⟩] 174)):=((Upd.refl _ _).alloc _).alloc _
 have i:((w.alloc (.cells #[.int .u64 A,.int .u64 B,.slice a X.length c] 201)).alloc (.cells #[.string ⟨#[]⟩] 174)).heap[w.heap.size]? = some (.cells #[.int .u64 A,.int .u64 B,.slice a X.length c] 201 (0,0)):=qq (qh _ _) _
 have hg:Wr ((w.alloc (.cells #[.int .u64 A,.int .u64 B,.slice a X.length c] 201)).alloc (.cells #[.string ⟨#[]⟩] 174)) (w.heap.size+1) ⟨#[]⟩:=by
  have:=qh (w.alloc (.cells #[.int .u64 A,.int .u64 B,.slice a X.length c] 201)) (.cells #[.string ⟨#[]⟩] 174);rwa [World.size_alloc] at this
 generalize (w.alloc (.cells #[.int .u64 A,.int .u64 B,.slice a X.length c] 201)).alloc (.cells #[.string ⟨#[]⟩] 174)=w1 at F i hg ⊢
 have HA:=qb hA
 have HB:=qb hB
 obtain⟨U,b4⟩:∃U:Int,U=n%18446744073709551616:=⟨_,rfl⟩
 have Y:=qb (show 0≤U∧U<18446744073709551616 by omega)
 have f4:IntKind.u64.wrap n=U:=by rw[IntKind.wrap_u64,b4]
 have O:qqj ch n A B X.length=zc ch.toNat 4++zc U.toNat 8++zc A.toNat 8++zc B.toNat 8++zc (X.length%65536) 2:=by rw[b4];rfl
 have f:=qb O
 obtain⟨c4,c5⟩:=hc
 have s4:=fun x=>qak x 4
 have s8:=fun x=>qak x 8
 have b9:=qb s4
 have H:=qb s8
 clear b4 O hA hB hn s4 s8
 have e9:w.heap.size+1<w1.heap.size:=hg.lt
 have g8:(X.length:Int)≤1048576:=by omega
 obtain⟨G,hG⟩:∃G,G=w.heap.size+1:=⟨_,rfl⟩
 rw[←hG] at hg e9 ⊢
 have g1:w.heap.size<G:=by omega
 clear hG
 go_wp2_with fail
 refine(q68 G ch ⟨#[]⟩ w1 hg c4 c5 (by decide)).mono ?_
 rintro e w2 ⟨rfl,u2,g2⟩
 rw[q0o] at g2
 replace i:=u2.old i (by omega)
 replace F:=F.then u2 (fun q T h=>by omega)
 clear hg u2 c4 c5
 have z2:(zc ch.toNat 4).size=4:=qa b9 _
 generalize zc ch.toNat 4=t4 at g2 z2 f
 have K:=qg i 0
 have L:=qg i 1
 have E:=qg i 2
 simp at K L E
 go_wp2_with fail
 refine(qha G U t4 w2 g2 (qa Y).1 (qa Y).2 (by omega)).mono ?_
 rintro e w3 ⟨rfl,u3,g3⟩
 replace i:=u3.old i (by omega)
 replace F:=F.then u3 (fun q T h=>by omega)
 clear K L E g2 u3
 have z3:(t4++zc U.toNat 8).size=12:=by rw[ByteArray.size_append,z2,qa H]
 generalize t4++zc U.toNat 8=t5 at g3 z3 f
 have K:=qg i 0
 have L:=qg i 1
 have E:=qg i 2
 simp at K L E
 go_wp2_with fail
 refine(qha G A t5 w3 g3 (qa HA).1 (qa HA).2 (by omega)).mono ?_
 rintro e w4 ⟨rfl,u4,g4⟩
 replace i:=u4.old i (by omega)
 replace F:=F.then u4 (fun q T h=>by omega)
 clear K L E g3 u4
 have z4:(t5++zc A.toNat 8).size=20:=by rw[ByteArray.size_append,z3,qa H]
 generalize t5++zc A.toNat 8=t6 at g4 z4 f
 have K:=qg i 0
 have L:=qg i 1
 have E:=qg i 2
 simp at K L E
 go_wp2_with fail
 refine(qha G B t6 w4 g4 (qa HB).1 (qa HB).2 (by omega)).mono ?_
 rintro e w5 ⟨rfl,u5,g5⟩
 replace i:=u5.old i (by omega)
 replace F:=F.then u5 (fun q T h=>by omega)
 clear K L E g4 u5
 have z5:(t6++zc B.toNat 8).size=28:=by rw[ByteArray.size_append,z4,qa H]
 generalize t6++zc B.toNat 8=t7 at g5 z5 f
 have K:=qg i 0
 have L:=qg i 1
 have E:=qg i 2
 simp at K L E
 go_wp2_with fail
 refine(q67 G _ t7 w5 g5 (by omega) (by omega) (by omega)).mono ?_
 rintro e w6 ⟨rfl,u6,g6⟩
 replace i:=u6.old i (by omega)
 replace F:=F.then u6 (fun q T h=>by omega)
 clear K L E g5 u6
 have d9:((X.length:Int)%65536).toNat=X.length%65536:=by omega
 rw[d9,←qa f] at g6
 have zh:=qoi ch n A B X.length
 have b6:qii ch n A B X=X.foldl qf1 (qqj ch n A B X.length):=rfl
 generalize qqj ch n A B X.length=hd at g6 zh b6
 have c0:=qb b6
 clear d9 b6 z2 z3 z4 z5 f b9 f4 Y HA HB
 have E:=qg i 2
 simp at E
 go_wp2_with fail
 clear E
 obtain⟨wo,rfl⟩:∃wo:World,wo=w6:=⟨_,rfl⟩
 have HU:=qb hu
 clear hu
 go_loopw [9,38] (fun _ iv wr=>∃k:Nat,iv = .int .i64 (k:Int)∧k≤X.length∧Wr wr G ((X.take k).foldl qf1 hd)∧qu w wr) (fun _ iv _=>X.length-(intOf iv).toNat)
 case atStart=>exact⟨0,rfl,Nat.zero_le _,g6,F⟩
 case round =>
  clear g6 F;obtain⟨k,rfl,hk,gk,z⟩:=hrel;obtain⟨p,rfl⟩:∃p:World,p=wr:=⟨_,rfl⟩;by_cases f0:k<X.length
  ·obtain⟨x,hx⟩:∃x,X[k]? = some x:=⟨_,List.getElem?_eq_getElem f0⟩;obtain⟨b,off,rfl,-,d5⟩:=((qa HU).new z).at hx;have W:=f1 x (List.mem_of_getElem? hx);have C:=q04 X hd hx;have b5:=qqg (X.take k) hd;rw[zh,List.length_take,Nat.min_eq_left hk] at b5;have g7:(k:Int)<(X.length:Int):=by omega
   have e6:=gk.lt;generalize (X.take k).foldl qf1 hd=s0 at gk C b5;have HF:=qb C;have P:=qb W;clear hx C W;go_upto_region 9 with fail;refine wp_region_lit ?_;refine zg rfl (v:= .pointer (some ⟨b,off+k*36,none⟩)) (w':=p) (by simp only[execOp];go_simp) ?_;refine zg rfl (v:= .agg (zi x).toArray) (w':=p) (by simp only[execOp];go_simp) ?_;refine zg rfl (v:= .pointer (some ⟨p.heap.size,0,none⟩)) (w':=p.alloc (.cells qrh 254)) (by kernel_rfl) ?_;have n1:qu p (p.alloc (.cells qrh 254)):=(Upd.refl _ _).alloc _;have S:(p.alloc (.cells qrh 254)).heap[p.heap.size]? = some (.cells qrh 254 (0,0)):=qh _ _;generalize p.alloc (.cells qrh 254)=b7 at n1 S ⊢;refine wpList_store_row rfl _ _ _ rfl p.heap.size (zi x).toArray (by kernel_rfl) (by kernel_rfl) 254 _ S (by rw[List.size_toArray,qcc];exact Tryz.infoItem) (by have h9:qrh.size=36:=rfl;rw[h9];simp[qcc]) (by rw[List.all_toArray,List.all_eq_true];exact qop x) ?_;have m:=setRow_heap b7 p.heap.size _ (zi x).toArray 254 (0,0) S;have n2:qu p (b7.setRow p.heap.size (zi x).toArray):=n1.setRow (fun h=>by omega) _;generalize b7.setRow p.heap.size (zi x).toArray=f5 at m n2 ⊢;replace gk:=gk.new n2;replace z:=z.trans n2;have e7:G<p.heap.size:=e6;have e8:w.heap.size≤p.heap.size:=by omega
   generalize p.heap.size=I at m e7 e8 ⊢;clear n1 S n2 d5;have d6:=qai m 36 (by simp[qcc]);have c6:(zi x)[0]? = some (.bool x.offered):=rfl;have d4:=qoy x.offered (zi x).toArray f5 (by rw[List.getElem?_toArray];exact c6);have f2:(1-qfa x.offered).toNat=(if x.offered then 1 else 0)∧0≤1-qfa x.offered∧1-qfa x.offered≤1∧0≤qfa x.offered∧qfa x.offered≤1:=by cases x.offered<;>decide
   obtain⟨V,d3,f7,f8,f9⟩:=f2;have e4:=qb V;have Z:=qb d4;clear c6 d4 V;generalize c3:(zi x).toArray=IC at d6 Z;have g0:=qb c3;clear c3;go_wp2_with fail;refine(qa Z).mono ?_;rintro e f6 ⟨rfl,n3⟩;have m3:=_root_.Go.Proofs.YtfmkdoachjgjbaaGreatDoor.G.new n3;replace m:=m3.old m (fun h=>h);replace gk:=gk.new m3;replace z:=z.trans m3;clear m3 n3 d6 Z;go_wp2_with fail;refine(q66 G (1-qfa x.offered) s0 f6 gk d3 (by omega) (by omega)).mono ?_;rintro e w4 ⟨rfl,u4,R⟩;replace m:=u4.old m (by omega);replace z:=z.then u4 (fun q T h=>by omega);clear u4;rw[qa e4] at R;have y4:(s0++zc (if x.offered then 1 else 0) 1).size=31+57*k:=by rw[ByteArray.size_append,b5,qak];omega
   generalize c7:s0++zc (if x.offered then 1 else 0) 1=p4 at R y4;have d1:=qg2 x 1 (by decide) m;have d2:=qg2 x 2 (by decide) m;have J:=qg2 x 35 (by decide) m;rw[qy8] at J;have dh:=qub x m;replace d1:w4.cell? ⟨I,1,none⟩=some (.int .u64 x.h.id):=d1;clear d2 J dh gk;go_wp2_with fail;refine(qha G x.h.id p4 w4 R (qa P).id.1 (by have:=(qa P).id.2;omega) (by omega)).mono ?_;rintro e w5 ⟨rfl,u5,a6⟩;replace m:=u5.old m (by omega);replace z:=z.then u5 (fun q T h=>by omega);clear u5;have y5:(p4++zc x.h.id.toNat 8).size=39+57*k:=by rw[ByteArray.size_append,y4,qa H];omega
   generalize c8:p4++zc x.h.id.toNat 8=p5 at a6 y5;have d2:w5.cell? ⟨I,2,none⟩=some (.int .u64 x.h.amount):=qg2 x 2 (by decide) m;clear d1 R;go_wp2_with fail;refine(qha G x.h.amount p5 w5 a6 (qa P).amount.1 (by have:=(qa P).amount.2;omega) (by omega)).mono ?_;rintro e w6 ⟨rfl,u6,a7⟩;replace m:=u6.old m (by omega);replace z:=z.then u6 (fun q T h=>by omega);clear u6;have y6:(p5++zc x.h.amount.toNat 8).size=47+57*k:=by rw[ByteArray.size_append,y5,qa H];omega
   generalize c9:p5++zc x.h.amount.toNat 8=p6 at a7 y6;have dh:=qub x m;generalize c2:(x.h.hash.toList.map (Value.int .u8)).toArray=HC at dh;have M:=qb (qua G x.h.hash.toList p6 w6 a7 (by simp) (by omega));rw[c2] at M;clear d2 a6 c2 a7;go_wp2_with fail;refine(qa M).mono ?_;rintro e w7 ⟨rfl,u7,a8⟩;replace m:=u7.old m (by omega);replace z:=z.then u7 (fun q T h=>by omega);clear u7 M dh;have y7:(p6++strOfNums x.h.hash.toList).size=79+57*k:=by rw[ByteArray.size_append,y6,strOfNums_size];simp;omega
   generalize d0:p6++strOfNums x.h.hash.toList=p7 at a8 y7;have J:=qg2 x 35 (by decide) m;rw[qy8] at J;obtain⟨ee,b3⟩:∃ee:Int,ee=x.h.expiry%18446744073709551616:=⟨_,rfl⟩;have b8:=qb (show 0≤ee∧ee<18446744073709551616 by omega);have f3:IntKind.u64.wrap x.h.expiry=ee:=by rw[IntKind.wrap_u64,b3]
   have e3:=qb b3;clear b3;go_wp2_with fail;refine(qha G ee p7 w7 a8 (qa b8).1 (qa b8).2 (by omega)).mono ?_;rintro e w8 ⟨rfl,u8,c1⟩;replace m:=u8.old m (by omega);replace z:=z.then u8 (fun q T h=>by omega);clear u8;have d7:p7++zc ee.toNat 8=(X.take (k+1)).foldl qf1 hd:=by
    rw[qa HF,←d0,←c9,←c8,←c7,qa e3];rfl
   rw[d7] at c1;clear J f3 c7 c8 c9 d0 d7 a8;go_wp2;go_roundw
   case rel=>exact⟨k+1,by go_num,by omega,c1,z⟩
   case measure=>simp[intOf];omega
  ·obtain rfl:k=X.length:=by omega
   rw[List.take_length,←qa c0] at gk;generalize d8:qii ch n A B X=tt at gk c0;have e5:=qb d8;clear d8;go_wp2_with fail;refine(qfx G tt p gk).mono ?_;rintro e w9 ⟨rfl,rfl⟩;go_wp2;go_ret;exact⟨by rw[qa e5];rfl,z⟩
end
end Go.Proofs.YtfmkdoachjgjbaaGreatDoor
