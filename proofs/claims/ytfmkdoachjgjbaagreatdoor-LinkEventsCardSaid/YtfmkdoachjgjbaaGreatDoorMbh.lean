/-
  wire.May.
-/
import Derived.Test.YtfmkdoachjgjbaaGreatDoorFld3
import Derived.Test.YtfmkdoachjgjbaaGreatDoorMbe
import Derived.Maps.OwnSet
import Derived.Test.YtfmkdoachjgjbaaGreatDoorMba
import Derived.Test.YtfmkdoachjgjbaaGreatDoorMad
import Derived.Test.YtfmkdoachjgjbaaGreatDoorTxt
set_option linter.unusedVariables false
set_option linter.unusedSimpArgs false
namespace Go.Proofs.YtfmkdoachjgjbaaGreatDoor
open Go.RowKit
def qgj(xs:List Fld)(m:MsgV):MsgV:=xs.foldl (fun m x=>x.zero m) m
theorem zero_len(x:Fld)(m:MsgV)(h:m.hash.length=32):(x.zero m).hash.length=32:=by cases x<;>first | exact h | exact qo
theorem qyf{xs:List Fld}{i:Nat}{x:Fld}(h:xs[i]? = some x)(m:MsgV):qgj (xs.take (i+1)) m=x.zero (qgj (xs.take i) m):=by
 unfold qgj;rw[List.take_add_one,h,List.foldl_append];rfl
set_option maxRecDepth 100000 in
set_option maxHeartbeats 1000000 in
theorem qvj(base A:Nat)(v:Value)(xs:List Fld)(m:MsgV)(w:World)(hv:FldsO base w v xs)(Z:MsB w A m)(a6:A<base)(c0:xs.length≤100) :
  Calls Tryz.prog 139 #[qg6,v,.pointer (some ⟨A,0,none⟩)] w fun e w'=>e = .returned (.tuple #[])∧MsB w' A (qgj xs m)∧Upd (· = A) w w':=by
 obtain⟨vs,z,b8,N⟩:=hv
 obtain⟨va,b5,R⟩:=qaa z
 have q:∀(i:Nat) (u:Value),vs[i]? = some u→∃g,va=some ⟨g,0,none⟩∧base≤g∧w.cell? ⟨g,i,none⟩=some u:=by
  intro i u J;have P:=(List.getElem?_eq_some_iff.1 J).1;rcases z.2 with ⟨e,e0⟩ | ⟨g,cap,Y,e,I,hg,_,_,hs,ht⟩
  ·omega
  ·rw[R] at e;injection e with e1;refine⟨g,e1,I,?_⟩;rw[qg hg];have:Y.toList[i]? = some u:=by
    rw[←J,←ht,List.getElem?_take_of_lt (by omega)]
   rwa [Array.getElem?_toList] at this
 subst R
 clear z
 have E:=qb q
 have V:=qb N
 clear q N
 unfold qg6
 go_enter Tryz.func139,Tryz.ntmps139
 go_upto_region 1 with fail
 have T:qq w (w.alloc (.cells #[.pointer none,.pointer none] 234)):=(Upd.refl _ _).alloc _
 have I:=qj w (.cells #[.pointer none,.pointer none] 234)
 have a7:=Z.lt
 generalize w.alloc (.cells #[.pointer none,.pointer none] 234)=w1 at T I ⊢
 have L:A≠w.heap.size:=by omega
 generalize w.heap.size=B at I L ⊢
 have HB:=qb I
 have U:=qb (Z.new T)
 have X:=qb T
 have b9:(xs.length:Int)≤100:=by omega
 clear I Z T a7
 go_wp2_with fail
 go_loopw [7,10] (fun _ iv wr=>∃i:Nat,iv = .int .i64 (i:Int)∧i≤xs.length∧Hid (MsB wr A (qgj (xs.take i) m))∧Upd (· = A) w1 wr) (fun _ iv _=>xs.length-(intOf iv).toNat)
 case atStart=>exact⟨0,rfl,Nat.zero_le _,U,Upd.refl _ _⟩
 case round =>
  obtain⟨i,rfl,hi,hM,K⟩:=hrel;obtain⟨H,rfl⟩:∃H:World,H=wr:=⟨_,rfl⟩;by_cases P:i<xs.length
  ·obtain⟨x,hx⟩:∃x,xs[i]? = some x:=⟨_,List.getElem?_eq_getElem P⟩;obtain⟨u,J⟩:∃u,vs[i]? = some u:=⟨_,List.getElem?_eq_getElem (by omega)⟩;obtain⟨g,rfl,b6,hc⟩:=qa E i u J;have hf:=qa V i x u hx J;have O:qgk base H u x:=(hf.new (qa X)).upd K (fun k hk e=>by omega);have a8:H.cell? ⟨g,i,none⟩=some u:=K.cell ((qa X).cell hc (fun h=>h)) (by show ¬g=A;omega);have C:=K.old (qa HB) (fun e=>L e.symm);have rP:=qat C 2 rfl;have d0:H.cell? ⟨B,0,none⟩=some (.pointer none):=qg C 0;have d1:H.cell? ⟨B,1,none⟩=some (.pointer none):=qg C 1;obtain⟨F,b4,rfl,hE,f⟩:=q0e x base A _ u H O (qa hM) a6;have S:=qyf hx m;have HZ:=qb S;have b7:(i:Int)<(xs.length:Int):=by omega
   unfold qg6 at f;clear hf O hc C S hx J;go_wp2_with fail;refine f.mono ?_;rintro e w3 ⟨rfl,M,u3⟩;have b3:=K.trans u3;have W:=qb M;clear f rP d0 d1 a8 hE M u3 K;go_wp2_with fail;go_roundw
   case rel=>exact⟨i+1,by go_num,by omega,by rw[qa HZ];exact W,b3⟩
   case measure=>simp[intOf];omega
  ·obtain rfl:i=xs.length:=by omega
   rw[List.take_length] at hM;go_wp2_with fail;go_end0;exact⟨rfl,qa hM,((qa X).mono (fun _ _ h=>h.elim)).trans K⟩
theorem Tryz.flatMsg:qc9 Tryz.prog 5 101=some (.int .i64 :: .int .u32 :: .int .u64 :: .int .u64::(List.replicate 32 (.int .u8)++[.int .i64,.int .i64])):=by kernel_rfl
theorem Tryz.eqMsg:eqB Tryz.prog 5 101=true:=by kernel_rfl
theorem Tryz.aggMsg:qgm Tryz.prog 101=true:=by kernel_rfl
theorem wfI{n:Int}(h : -9223372036854775808≤n∧n≤9223372036854775807):(Lit.int .i64 n).wf=true:=by
 simp[Lit.wf,IntKind.min,IntKind.max,IntKind.signed,IntKind.bits];omega
theorem wfU{n:Int}(h:0≤n∧n<18446744073709551616):(Lit.int .u64 n).wf=true:=by
 simp[Lit.wf,IntKind.min,IntKind.max,IntKind.signed,IntKind.bits];omega
theorem wfW{n:Int}(h:0≤n∧n<4294967296):(Lit.int .u32 n).wf=true:=by
 simp[Lit.wf,IntKind.min,IntKind.max,IntKind.signed,IntKind.bits];omega
theorem quh{m:MsgV}(h:MsgOk m):qd2 (.int .i64 :: .int .u32 :: .int .u64 :: .int .u64::(List.replicate 32 (.int .u8)++[.int .i64,.int .i64])) m.cells :=
 ⟨_,_,rfl,⟨_,rfl,wfI h.kind⟩,_,_,rfl,⟨_,rfl,wfW h.ch⟩,_,_,rfl,⟨_,rfl,wfU h.id⟩,_,_,rfl,⟨_,rfl,wfU h.amount⟩,qd2.app (qir h.len h.hash) ⟨_,_,rfl,⟨_,rfl,wfI h.expiry⟩,_,_,rfl,⟨_,rfl,wfI h.number⟩,rfl⟩⟩
def eqMsg(x y:Value):Sem Value:=binOp .eql 101 x y
theorem qto(x y:Value):binOp .eql 101 x y=eqMsg x y:=rfl
theorem qz1{a b:MsgV}(C:a.hash.length=32)(E:b.hash.length=32)(h:a.cells=b.cells):a=b:=by
 obtain⟨a1,a2,a3,a4,a5,F,H⟩:=a;obtain⟨b1,b2,I,J,m,K,L⟩:=b;unfold MsgV.cells at h;simp only[List.cons.injEq,Value.int.injEq,true_and] at h;obtain⟨rfl,rfl,rfl,rfl,h⟩:=h;have f:a5.length=32:=C;have i:m.length=32:=E;have:=List.append_inj h (by simp[f,i]);obtain⟨v,q⟩:=this;have z:a5=m:=qiq v;simp only[List.cons.injEq,Value.int.injEq,true_and,and_true] at q;obtain⟨rfl,rfl⟩:=q;rw[z]
instance:DecidableEq MsgV:=fun a b =>
 decidable_of_iff (a.kind=b.kind∧a.ch=b.ch∧a.id=b.id∧a.amount=b.amount∧a.hash=b.hash∧a.expiry=b.expiry∧a.number=b.number)
  ⟨by rintro ⟨h1,h2,h3,h4,h5,h6,h7⟩;cases a;cases b;simp_all,by rintro rfl;exact⟨rfl,rfl,rfl,rfl,rfl,rfl,rfl⟩⟩
theorem zbb{a b:MsgV}(f:MsgOk a)(i:MsgOk b)(w:World):(eqMsg (.agg a.cells.toArray) (.agg b.cells.toArray)).run Tryz.prog w = .ok (.bool (decide (a=b))) w:=by
 refine qlc 5 (by decide) Tryz.eqMsg Tryz.flatMsg Tryz.aggMsg (quh f) (quh i) (decide (a=b)) ?_ w;constructor
 ·intro e;rw[of_decide_eq_true e]
 ·intro e;exact decide_eq_true (qz1 f.len i.len e)
theorem q9z{m:MsgV}(h:MsgOk m)(x:Fld):MsgOk (x.zero m):=by
 have z:∀b∈ze,0≤b∧b≤255:=qdd;cases x
 ·exact⟨h.kind,show (0:Int)≤0∧(0:Int)<4294967296 by decide,h.id,h.amount,h.len,h.hash,h.expiry,h.number⟩
 ·exact⟨h.kind,h.ch,show (0:Int)≤0∧(0:Int)<18446744073709551616 by decide,h.amount,h.len,h.hash,h.expiry,h.number⟩
 ·exact⟨h.kind,h.ch,h.id,show (0:Int)≤0∧(0:Int)<18446744073709551616 by decide,h.len,h.hash,h.expiry,h.number⟩
 ·exact⟨h.kind,h.ch,h.id,h.amount,qo,z,h.expiry,h.number⟩
 ·exact⟨h.kind,h.ch,h.id,h.amount,h.len,h.hash,show (-9223372036854775808:Int)≤0∧(0:Int)≤9223372036854775807 by decide,h.number⟩
 ·exact⟨h.kind,h.ch,h.id,h.amount,h.len,h.hash,h.expiry,show (-9223372036854775808:Int)≤0∧(0:Int)≤9223372036854775807 by decide⟩
theorem q7z(xs:List Fld):∀ {m:MsgV},MsgOk m→MsgOk (qgj xs m):=by
 induction xs with
 | nil=>intro m h;exact h
 | cons x xs f=>intro m h;exact f (q9z h x)
def qbh(k:Int):MsgV:=⟨k,0,0,0,ze,0,0⟩
theorem qfz{k:Int}(h : -9223372036854775808≤k∧k≤9223372036854775807):MsgOk (qbh k) :=
 ⟨h,show (0:Int)≤0∧(0:Int)<4294967296 by decide,show (0:Int)≤0∧(0:Int)<18446744073709551616 by decide,show (0:Int)≤0∧(0:Int)<18446744073709551616 by decide,qo,qdd,show (-9223372036854775808:Int)≤0∧(0:Int)≤9223372036854775807 by decide,show (-9223372036854775808:Int)≤0∧(0:Int)≤9223372036854775807 by decide⟩
theorem qye(xs:List Fld):∀m:MsgV,(qgj xs m).kind=m.kind:=by
 induction xs with
 | nil=>intro m;rfl
 | cons x xs f=>intro m;exact(f _).trans (by cases x<;>rfl)
def qap(m:MsgV):Bool :=
 match fieldsOf m.kind with
 | none=>false
 | some xs=>if m.expiry<0∨1073741824<m.expiry∨m.number<0∨65535<m.number∨1125899906842624<m.amount then false else decide (qgj xs m=qbh m.kind)
theorem qug{m:MsgV}(h:fieldsOf m.kind=none):qap m=false:=by unfold qap;rw[h]
theorem q6a{m:MsgV}{xs:List Fld}(h:fieldsOf m.kind=some xs):qap m=if m.expiry<0∨1073741824<m.expiry∨m.number<0∨65535<m.number∨1125899906842624<m.amount then false else decide (qgj xs m=qbh m.kind):=by unfold qap;rw[h]
theorem qhn{k:Int}{xs:List Fld}(h:fieldsOf k=some xs):xs.length≤100:=by
 unfold fieldsOf at h
 repeat' (split at h)
 all_goals first
  | (injection h with h;subst h;decide)
  | cases h
attribute [local go_sem ↓ high] qz zb zc zf qto
attribute [local go_sem] qaw qax qa1 qw
theorem qtc(k:Int)(w:World):(qij #[(0,.int .i64 k)]).run Tryz.prog w = .ok (.agg (qbh k).cells.toArray) w:=run_build w _ _ _ (by kernel_rfl)
set_option maxRecDepth 100000 in
set_option maxHeartbeats 1000000 in
theorem qht(m:MsgV)(M:MsgOk m)(w:World):Calls Tryz.prog 143 #[.agg m.cells.toArray] w (qa5 (.bool (qap m)) w):=by
 go_enter Tryz.func143,Tryz.ntmps143;go_upto_region 1 with fail;have I:=qai w m M.len;have O:qq w (w.alloc (.cells m.cells.toArray 101)):=(Upd.refl _ _).alloc _;generalize w.alloc (.cells m.cells.toArray 101)=w1 at O I ⊢;obtain⟨A,J⟩:∃A,A=w.heap.size:=⟨_,rfl⟩;rw[←J] at I ⊢;have a6:w.heap.size≤A:=by omega
 clear J;obtain⟨Z,-,-,-,-,-,-⟩:=I.cells;have Y:=qb I;clear I;cases F:fieldsOf m.kind with
 | none =>
  have z:=qb (qug F);have K:=qmk m.kind F w1;clear F M;go_wp2_with fail;refine K.mono ?_;rintro e w2 ⟨rfl,N⟩;have q:=O.trans N;clear K Z;go_wp2_with fail;go_ret;exact⟨by rw[qa z];rfl,q⟩
 | some xs =>
  have z:=qb (q6a F);have T:=qhn F;have K:=qj3 m.kind xs F w1;have R:=M.kind;have HM:=qb M;clear F M;go_wp2_with fail;refine K.mono ?_;rintro e w2 ⟨v,rfl,N,L⟩;have f:=(qa Y).new N;obtain⟨-,-,-,m3,U,V,-⟩:=f.cells;have q:=O.trans N;have P:=qb L;have C:=(qa Y).lt;clear K Z L O N;by_cases e1:m.expiry<0
  ·rw[if_pos (.inl e1)] at z;clear f;go_wp2_with fail;go_ret;exact⟨by rw[qa z];rfl,q⟩
  by_cases e2:1073741824<m.expiry
  ·rw[if_pos (.inr (.inl e2))] at z;clear f;go_wp2_with fail;go_ret;exact⟨by rw[qa z];rfl,q⟩
  by_cases e3:m.number<0
  ·rw[if_pos (.inr (.inr (.inl e3)))] at z;clear f;go_wp2_with fail;go_ret;exact⟨by rw[qa z];rfl,q⟩
  by_cases e4:65535<m.number
  ·rw[if_pos (.inr (.inr (.inr (.inl e4))))] at z;clear f;go_wp2_with fail;go_ret;exact⟨by rw[qa z];rfl,q⟩
  by_cases e5:1125899906842624<m.amount
  ·rw[if_pos (.inr (.inr (.inr (.inr e5))))] at z;clear f;go_wp2_with fail;go_ret;exact⟨by rw[qa z];rfl,q⟩
  rw[if_neg (by omega)] at z;have H:=qvj w1.heap.size A v xs m w2 (qa P) f C T;unfold qg6 at H;clear f;go_wp2_with fail;refine H.mono ?_;rintro e w3 ⟨rfl,E,u3⟩;have X:qq w w3:=q.then u3 (fun i hi e=>by omega);have hz:=qye xs m;have S:=q7z xs (qa HM);obtain⟨z0,-,-,-,-,-,-⟩:=E.cells;rw[hz] at z0;have rM:=E.row;have a7:=fun W=>qtc m.kind W
  have a8:=fun W=>zbb S (qfz R) W
  clear H u3 m3 U V E;go_wp2_with fail;go_ret;exact⟨by rw[qa z];rfl,X⟩
end Go.Proofs.YtfmkdoachjgjbaaGreatDoor
namespace Go.Proofs.YtfmkdoachjgjbaaGreatDoor
open Go.RowKit
def fnR(v:Value):Option (DataW Unit × List MemPlace) :=
 match v with
 | .func (.func F) a b=>if a.size=0∧b.size=0 then some (.lit (.int .i64 F),[]) else none
 | .nilFunc=>some (.lit (.int .i64 (-1)),[])
 | _=>none
theorem q8v{v:Value}{F:Nat}{ps:List MemPlace}(h:fnR v=some (.lit (.int .i64 F),ps)):v = .func (.func F) #[] #[]:=by
 unfold fnR at h;split at h
 ·split at h
  ·rename_i f;simp only[Option.some.injEq,Prod.mk.injEq,DataW.lit.injEq,Lit.int.injEq,true_and] at h;have e:_=F:=Int.ofNat.inj h.1;rw[Array.eq_empty_of_size_eq_zero f.1,Array.eq_empty_of_size_eq_zero f.2,e]
  ·cases h
 ·simp only[Option.some.injEq,Prod.mk.injEq,DataW.lit.injEq,Lit.int.injEq,true_and] at h;omega
 ·cases h
def hearD:DataW Unit:=((((((((DataW.map []).put (.int .i64 3) (.lit (.int .i64 176))).put (.int .i64 4) (.lit (.int .i64 177))).put (.int .i64 5) (.lit (.int .i64 178))).put (.int .i64 6) (.lit (.int .i64 179))).put (.int .i64 7) (.lit (.int .i64 180))).put (.int .i64 8) (.lit (.int .i64 181))).put (.int .i64 9) (.lit (.int .i64 182)))
def qh1(w:World)(b:Nat):Prop:=w.ownsMap Tryz.prog 3 fnR b 7 hearD
set_option maxRecDepth 100000 in
set_option maxHeartbeats 1000000 in
theorem qt4(w:World):Calls Tryz.prog 144 #[] w fun e w'=>∃b,e = .returned (.map (some b))∧qq w w'∧qh1 w' b:=by
 have K:=Maps.int_keyed Tryz.underlying3;have H:=World.ownsMap_made w Tryz.prog 3 fnR;have R:qq w (w.alloc (.map #[] 0)):=(Upd.refl _ _).alloc _;have key:∀k:Int,(Lit.int .i64 k).wf=true→keyOf Tryz.prog 3 (.int .i64 k)=some (.int .i64 k):=fun k i=>Maps.keyOf_int_mk Tryz.underlying3 i
 have V:=@run_makeMap Tryz.prog;obtain⟨w1,X,I,m⟩:=H.update K Tryz.underlying241 (by decide) (key 3 (by decide)) (val:= .func (.func 176) #[] #[]) (d:= .lit (.int .i64 176)) (ps:=[]) rfl;obtain⟨w2,Y,J,q⟩:=I.update K Tryz.underlying241 (by decide) (key 4 (by decide)) (val:= .func (.func 177) #[] #[]) (d:= .lit (.int .i64 177)) (ps:=[]) rfl;obtain⟨w3,Z,L,v⟩:=J.update K Tryz.underlying241 (by decide) (key 5 (by decide)) (val:= .func (.func 178) #[] #[]) (d:= .lit (.int .i64 178)) (ps:=[]) rfl;obtain⟨w4,r4,M,z⟩:=L.update K Tryz.underlying241 (by decide) (key 6 (by decide)) (val:= .func (.func 179) #[] #[]) (d:= .lit (.int .i64 179)) (ps:=[]) rfl;obtain⟨w5,r5,N,C⟩:=M.update K Tryz.underlying241 (by decide) (key 7 (by decide)) (val:= .func (.func 180) #[] #[]) (d:= .lit (.int .i64 180)) (ps:=[]) rfl;obtain⟨w6,r6,O,E⟩:=N.update K Tryz.underlying241 (by decide) (key 8 (by decide)) (val:= .func (.func 181) #[] #[]) (d:= .lit (.int .i64 181)) (ps:=[]) rfl;obtain⟨S,r7,P,F⟩:=O.update K Tryz.underlying241 (by decide) (key 9 (by decide)) (val:= .func (.func 182) #[] #[]) (d:= .lit (.int .i64 182)) (ps:=[]) rfl;have W:qq w S:=by
  have f:∀ {a b:World},a.grownBy b (some w.heap.size)→qq w a→qq w b:=fun g n=>n.grown g (fun k i U=>by injection i with i;omega)
  exact f F (f E (f C (f z (f v (f q (f m R))))))
 have T:qh1 S w.heap.size:=P;clear key K H I J L M N O P m q v z C E F R;go_enter Tryz.func144,Tryz.ntmps144;go_wp2_with fail;go_ret;exact⟨_,rfl,W,T⟩
theorem qeq{w:World}{b:Nat}(h:qh1 w b)(k:Int)(F:Nat)(m:(Lit.int .i64 k).wf=true)(i:Maps.has hearD (.int .i64 k)=true)(hd:hearD.atKey (.int .i64 k) (.lit (.int .i64 (-1))) = .lit (.int .i64 F)) :
  (Instr.lookup 241 (.map (some b)) (.int .i64 k) true).run Tryz.prog w = .ok (.tuple #[.func (.func F) #[] #[],.bool true]) w:=by
 obtain⟨v,ps,q,f⟩:=h.look_ok (Maps.int_keyed Tryz.underlying3) Tryz.underlying241 (z:= .nilFunc) (zd:= .lit (.int .i64 (-1))) (zp:=[]) (by kernel_rfl) rfl (Maps.keyOf_int_mk Tryz.underlying3 m)
 rw[hd] at f
 rw[q,q8v f,i]
theorem zbp{w:World}{b:Nat}(h:qh1 w b):(Instr.lookup 241 (.map (some b)) (.int .i64 3) true).run Tryz.prog w = .ok (.tuple #[.func (.func 176) #[] #[],.bool true]) w:=qeq h 3 _ (by decide) (by decide +kernel) rfl
theorem zbq{w:World}{b:Nat}(h:qh1 w b):(Instr.lookup 241 (.map (some b)) (.int .i64 4) true).run Tryz.prog w = .ok (.tuple #[.func (.func 177) #[] #[],.bool true]) w:=qeq h 4 _ (by decide) (by decide +kernel) rfl
theorem zbr{w:World}{b:Nat}(h:qh1 w b):(Instr.lookup 241 (.map (some b)) (.int .i64 5) true).run Tryz.prog w = .ok (.tuple #[.func (.func 178) #[] #[],.bool true]) w:=qeq h 5 _ (by decide) (by decide +kernel) rfl
theorem zbs{w:World}{b:Nat}(h:qh1 w b):(Instr.lookup 241 (.map (some b)) (.int .i64 6) true).run Tryz.prog w = .ok (.tuple #[.func (.func 179) #[] #[],.bool true]) w:=qeq h 6 _ (by decide) (by decide +kernel) rfl
theorem zbt{w:World}{b:Nat}(h:qh1 w b):(Instr.lookup 241 (.map (some b)) (.int .i64 7) true).run Tryz.prog w = .ok (.tuple #[.func (.func 180) #[] #[],.bool true]) w:=qeq h 7 _ (by decide) (by decide +kernel) rfl
theorem zbu{w:World}{b:Nat}(h:qh1 w b):(Instr.lookup 241 (.map (some b)) (.int .i64 8) true).run Tryz.prog w = .ok (.tuple #[.func (.func 181) #[] #[],.bool true]) w:=qeq h 8 _ (by decide) (by decide +kernel) rfl
theorem zbv{w:World}{b:Nat}(h:qh1 w b):(Instr.lookup 241 (.map (some b)) (.int .i64 9) true).run Tryz.prog w = .ok (.tuple #[.func (.func 182) #[] #[],.bool true]) w:=qeq h 9 _ (by decide) (by decide +kernel) rfl
end Go.Proofs.YtfmkdoachjgjbaaGreatDoor
namespace Go.Proofs.YtfmkdoachjgjbaaGreatDoor
open Go.RowKit Go.Sort
theorem get!_of{X:List Item}{n:Nat}{x:Item}(h:X[n]? = some x):X[n]! = x:=by rw[List.getElem!_eq_getElem?_getD,h];rfl
def qki(w:World)(g off:Nat)(X:List Item):Prop :=
 ∃C T f,w.heap[g]? = some (.cells C T f)∧off+X.length*36≤C.size∧∀i x,X[i]? = some x→∀j,j<36→C[off+i*36+j]? = (zl x)[j]?
theorem qki.row{w:World}{g off:Nat}{xs:List Item}(h:qki w g off xs){i:Nat}{x:Item}(q:xs[i]? = some x):zg w g (off+i*36) 36=some (zl x).toArray:=by
 obtain⟨C,T,F,v,H,z⟩:=h;have m:i<xs.length:=(List.getElem?_eq_some_iff.1 q).1;have f:off+i*36+36≤C.size:=by have:=Nat.mul_le_mul_right 36 (show i+1≤xs.length from m);omega
 rw[qbt v _ _ f];congr 1;apply Array.ext';apply List.ext_getElem?;intro j;rw[Array.getElem?_toList,Array.getElem?_extract];by_cases E:j<36
 ·rw[if_pos (by omega),z i x q j E]
 ·rw[if_neg (by omega),List.getElem?_eq_none (by rw[qcb];omega)]
theorem qki.upd{S:Nat→Prop}{w w':World}{b off:Nat}{xs:List Item}(h:qki w b off xs)(u:Upd S w w')(m:¬S b):qki w' b off xs:=by
 obtain⟨C,T,f,i,r⟩:=h;exact⟨C,T,f,u.old i m,r⟩
theorem qki.lt{w:World}{g off:Nat}{xs:List Item}(h:qki w g off xs):g<w.heap.size:=by
 obtain⟨C,T,i,f,r⟩:=h;exact zr f
theorem qc0.toR{w:World}{g off:Nat}{xs:List Item}(h:qc0 w g off xs):qki w g off xs:=by
 obtain⟨C,T,m,z,q⟩:=h;refine⟨C,T,_,m,z,fun i x f j v=> ?_⟩;rw[q i (List.getElem?_eq_some_iff.1 f).1 j v,get!_of f]
def qd4(w:World)(v:Value)(X:List Item):Prop:=(∃a c,v = .slice a 0 c∧X=[])∨∃g off cap,v = .slice (some ⟨g,off,none⟩) X.length cap∧qki w g off X
theorem qd4.new{w w':World}{v:Value}{X:List Item}(h:qd4 w v X)(u:qq w w'):qd4 w' v X:=by
 rcases h with h | ⟨g,off,cap,e,h⟩
 ·exact .inl h
 ·exact .inr ⟨g,off,cap,e,h.upd u (fun h=>h)⟩
theorem qnv.toR{w:World}{v:Value}{X:List Item}(h:qnv w v X):qd4 w v X:=by
 rcases h with h | ⟨g,cap,e,h⟩
 ·exact .inl h
 ·exact .inr ⟨g,0,cap,e,h.toR⟩
theorem qd4.slice{w:World}{v:Value}{X:List Item}(h:qd4 w v X):∃a c,v = .slice a X.length c:=by
 rcases h with ⟨_,_,rfl,rfl⟩ | ⟨g,off,cap,rfl,_⟩
 ·exact⟨_,_,rfl⟩
 ·exact⟨_,_,rfl⟩
theorem ql0{w:World}{base:Nat}{e:TypeId}{size:Nat}{v:Value}{n:Nat}{xs:List Value}(h:w.ownsRow base e size v n xs):∀k,v.ownBlock=some k→base≤k:=by
 intro k f;rcases h.2 with ⟨rfl,_⟩ | ⟨g,cap,i,rfl,m,_⟩
 ·simp[Value.ownBlock] at f
 ·simp[Value.ownBlock] at f;omega
theorem qd4.at{w:World}{a:Option Addr}{n c:Nat}{X:List Item}(h:qd4 w (.slice a n c) X){i:Nat}{x:Item}(f:X[i]? = some x) :
  ∃b off,a=some ⟨b,off,none⟩∧n=X.length∧zg w b (off+i*36) 36=some (zl x).toArray:=by
 rcases h with ⟨_,_,e,rfl⟩ | ⟨b,off,cap,e,m⟩
 ·simp at f
 ·cases e;exact⟨b,off,rfl,rfl,m.row f⟩
end Go.Proofs.YtfmkdoachjgjbaaGreatDoor
namespace Go.Proofs.YtfmkdoachjgjbaaGreatDoor
open Go.RowKit
theorem qhu(g:Nat)(x:Int)(f:Nat)(v:Int)(s:ByteArray)(w:World)(q:v=f)(C:Wr w g s)(i:1≤f)(m:f≤8)(z:0≤x)(E:x<2 ^ (8*f))(F:s.size≤1073741824) :
  Calls Tryz.prog 92 #[.pointer (some ⟨g,0,none⟩),.int .u64 x,.int .i64 v] w fun e w'=>e = .returned (.int .i64 0)∧Upd (fun k=>k=g) w w'∧Wr w' g (s++qx x.toNat f):=by
 subst q
 obtain⟨n,rfl⟩:=Int.eq_ofNat_of_zero_le z
 rw[Int.toNat_natCast]
 exact qdn g n f s w C i m (by exact_mod_cast E) F
theorem qg3(g:Nat)(x:Int)(s:ByteArray)(w:World)(i:Wr w g s)(f:0≤x)(m:x<18446744073709551616)(q:s.size≤1073741824) :
  Calls Tryz.prog 92 #[.pointer (some ⟨g,0,none⟩),.int .u64 x,.int .i64 8] w fun e w'=>e = .returned (.int .i64 0)∧Upd (fun k=>k=g) w w'∧Wr w' g (s++qx x.toNat 8) :=
 qhu g x 8 8 s w rfl i (by decide) (by decide) f m q
theorem q6k(g:Nat)(x:Int)(s:ByteArray)(w:World)(i:Wr w g s)(f:0≤x)(m:x<4294967296)(q:s.size≤1073741824) :
  Calls Tryz.prog 92 #[.pointer (some ⟨g,0,none⟩),.int .u64 x,.int .i64 4] w fun e w'=>e = .returned (.int .i64 0)∧Upd (fun k=>k=g) w w'∧Wr w' g (s++qx x.toNat 4) :=
 qhu g x 4 4 s w rfl i (by decide) (by decide) f m q
theorem q6j(g:Nat)(x:Int)(s:ByteArray)(w:World)(i:Wr w g s)(f:0≤x)(m:x<65536)(q:s.size≤1073741824) :
  Calls Tryz.prog 92 #[.pointer (some ⟨g,0,none⟩),.int .u64 x,.int .i64 2] w fun e w'=>e = .returned (.int .i64 0)∧Upd (fun k=>k=g) w w'∧Wr w' g (s++qx x.toNat 2) :=
 qhu g x 2 2 s w rfl i (by decide) (by decide) f m q
theorem q6i(g:Nat)(x:Int)(s:ByteArray)(w:World)(i:Wr w g s)(f:0≤x)(m:x<256)(q:s.size≤1073741824) :
  Calls Tryz.prog 92 #[.pointer (some ⟨g,0,none⟩),.int .u64 x,.int .i64 1] w fun e w'=>e = .returned (.int .i64 0)∧Upd (fun k=>k=g) w w'∧Wr w' g (s++qx x.toNat 1) :=
 qhu g x 1 1 s w rfl i (by decide) (by decide) f m q
end Go.Proofs.YtfmkdoachjgjbaaGreatDoor
namespace Go.Proofs.YtfmkdoachjgjbaaGreatDoor
open Go.RowKit Go.Sort
def qfx(s:ByteArray)(x:Item):ByteArray:=s++qx (if x.offered then 1 else 0) 1++qx x.h.id.toNat 8++qx x.h.amount.toNat 8++strOfNums x.h.hash.toList++qx (x.h.expiry%18446744073709551616).toNat 8
def qqd(ch n A B:Int)(m:Nat):ByteArray:=qx ch.toNat 4++qx (n%18446744073709551616).toNat 8++qx A.toNat 8++qx B.toNat 8++qx (m%65536) 2
def qh8(ch n A B:Int)(X:List Item):ByteArray:=X.foldl qfx (qqd ch n A B X.length)
theorem qt7(s:ByteArray)(x:Item):(qfx s x).size=s.size+57:=by
 unfold qfx;simp only[ByteArray.size_append,qaq,strOfNums_size];simp
theorem qof(ch n A B:Int)(m:Nat):(qqd ch n A B m).size=30:=by
 unfold qqd;simp only[ByteArray.size_append,qaq]
theorem qp9(X:List Item):∀s:ByteArray,(X.foldl qfx s).size=s.size+57*X.length:=by
 induction X with
 | nil=>intro s;simp
 | cons x X f=>intro s;rw[List.foldl_cons,f,qt7,List.length_cons];omega
theorem q0n(X:List Item)(s:ByteArray){k:Nat}{x:Item}(h:X[k]? = some x):(X.take (k+1)).foldl qfx s=qfx ((X.take k).foldl qfx s) x:=by
 rw[List.take_add_one,h];simp
def qrc:Array Value:=(.bool false :: .int .u64 0 :: .int .u64 0::(List.replicate 32 (.int .u8 0)++[.int .i64 0]):List Value).toArray
theorem qz8(s:ByteArray):(ByteArray.mk #[])++s=s:=by
 apply ByteArray.ext;simp
theorem qgw(x:Item)(i:Nat)(m:i<36){w:World}{b:Nat}{T:TypeId}{f:Nat × Nat}(h:w.heap[b]? = some (.cells (zl x).toArray T f)):w.cell? ⟨b,i,none⟩=(zl x)[i]? := by
 rw[qg h,List.getElem?_toArray]
theorem qtz(x:Item){w:World}{b:Nat}{T:TypeId}{f:Nat × Nat}(h:w.heap[b]? = some (.cells (zl x).toArray T f)):zg w b 3 32=some (x.h.hash.toList.map (Value.int .u8)).toArray:=by
 rw[qbt h 3 32 (by simp[qcb])];congr 1;apply Array.ext';rw[Array.toList_extract];unfold zl qk;simp
theorem qyz(x:Item):(zl x)[35]? = some (.int .i64 x.h.expiry):=by
 unfold zl qk;rw[List.getElem?_cons_succ,List.getElem?_cons_succ,List.getElem?_cons_succ,List.getElem?_append_right (by simp)];simp
theorem Tryz.infoHashT:(Tryz.prog.info? 35).map (·.size)=some 32:=by kernel_rfl
def qy1(x:Value):Sem Value:=Instr.loadAt 35 x
theorem qpq(x:Value):Instr.loadAt 35 x=qy1 x:=rfl
theorem q51(b o:Nat)(w:World):(qy1 (.pointer (some ⟨b,o,none⟩))).run Tryz.prog w=match zg w b o 32 with | some A=> .ok (.agg A) w | none=>qdh Tryz.prog 35 w b o :=
 qae 35 32 _ Tryz.underlying35 rfl Tryz.infoHashT b o w
attribute [local go_sem ↓ high] qfd qpq
attribute [local go_sem] qno q51
set_option maxRecDepth 100000 in
set_option maxHeartbeats 4000000 in
theorem q7n(ch n A B:Int)(u:Value)(X:List Item)(hl:X.length≤1048576)(f2:∀x∈X,HtlcOk x.h)(w:World)(hc:0≤ch∧ch<4294967296)(hn : -9223372036854775808≤n∧n≤9223372036854775807)
  (hA:0≤A∧A<18446744073709551616) (hB:0≤B∧B<18446744073709551616) (hu:qd4 w u X) :
  Calls Tryz.prog 157 #[.int .u32 ch,.int .i64 n,.agg #[.int .u64 A,.int .u64 B,u]] w (qa5 (.string (qh8 ch n A B X)) w):=by
 obtain⟨a,c,rfl⟩:=hu.slice
 go_enter Tryz.func157,Tryz.ntmps157
 go_upto_region 2 with fail
 have H:qq w ((w.alloc (.cells #[.int .u64 A,.int .u64 B,.slice a X.length c] 201)).alloc (.cells #[.string ⟨#[]⟩] 174)):=((Upd.refl _ _).alloc _).alloc _
 have i:((w.alloc (.cells #[.int .u64 A,.int .u64 B,.slice a X.length c] 201)).alloc (.cells #[.string ⟨#[]⟩] 174)).heap[w.heap.size]? = some (.cells #[.int .u64 A,.int .u64 B,.slice a X.length c] 201 (0,0)):=qs (qj _ _) _
 have hg:Wr ((w.alloc (.cells #[.int .u64 A,.int .u64 B,.slice a X.length c] 201)).alloc (.cells #[.string ⟨#[]⟩] 174)) (w.heap.size+1) ⟨#[]⟩:=by
  have:=qj (w.alloc (.cells #[.int .u64 A,.int .u64 B,.slice a X.length c] 201)) (.cells #[.string ⟨#[]⟩] 174);rwa [World.size_alloc] at this
 generalize (w.alloc (.cells #[.int .u64 A,.int .u64 B,.slice a X.length c] 201)).alloc (.cells #[.string ⟨#[]⟩] 174)=w1 at H i hg ⊢
 have HA:=qb hA
 have HB:=qb hB
 obtain⟨V,b5⟩:∃V:Int,V=n%18446744073709551616:=⟨_,rfl⟩
 have Z:=qb (show 0≤V∧V<18446744073709551616 by omega)
 have f5:IntKind.u64.wrap n=V:=by rw[IntKind.wrap_u64,b5]
 have P:qqd ch n A B X.length=qx ch.toNat 4++qx V.toNat 8++qx A.toNat 8++qx B.toNat 8++qx (X.length%65536) 2:=by rw[b5];rfl
 have f:=qb P
 obtain⟨c5,c6⟩:=hc
 have s4:=fun x=>qaq x 4
 have s8:=fun x=>qaq x 8
 have c0:=qb s4
 have J:=qb s8
 clear b5 P hA hB hn s4 s8
 have f0:w.heap.size+1<w1.heap.size:=hg.lt
 have g9:(X.length:Int)≤1048576:=by omega
 obtain⟨G,hG⟩:∃G,G=w.heap.size+1:=⟨_,rfl⟩
 rw[←hG] at hg f0 ⊢
 have g7:w.heap.size<G:=by omega
 clear hG
 go_wp2_with fail
 refine(q6k G ch ⟨#[]⟩ w1 hg c5 c6 (by decide)).mono ?_
 rintro e w2 ⟨rfl,u2,g2⟩
 rw[qz8] at g2
 replace i:=u2.old i (by omega)
 replace H:=H.then u2 (fun q U h=>by omega)
 clear hg u2 c5 c6
 have z2:(qx ch.toNat 4).size=4:=qa c0 _
 generalize qx ch.toNat 4=t4 at g2 z2 f
 have L:=qg i 0
 have M:=qg i 1
 have F:=qg i 2
 simp at L M F
 go_wp2_with fail
 refine(qg3 G V t4 w2 g2 (qa Z).1 (qa Z).2 (by omega)).mono ?_
 rintro e w3 ⟨rfl,u3,g3⟩
 replace i:=u3.old i (by omega)
 replace H:=H.then u3 (fun q U h=>by omega)
 clear L M F g2 u3
 have z3:(t4++qx V.toNat 8).size=12:=by rw[ByteArray.size_append,z2,qa J]
 generalize t4++qx V.toNat 8=t5 at g3 z3 f
 have L:=qg i 0
 have M:=qg i 1
 have F:=qg i 2
 simp at L M F
 go_wp2_with fail
 refine(qg3 G A t5 w3 g3 (qa HA).1 (qa HA).2 (by omega)).mono ?_
 rintro e w4 ⟨rfl,u4,g4⟩
 replace i:=u4.old i (by omega)
 replace H:=H.then u4 (fun q U h=>by omega)
 clear L M F g3 u4
 have z4:(t5++qx A.toNat 8).size=20:=by rw[ByteArray.size_append,z3,qa J]
 generalize t5++qx A.toNat 8=t6 at g4 z4 f
 have L:=qg i 0
 have M:=qg i 1
 have F:=qg i 2
 simp at L M F
 go_wp2_with fail
 refine(qg3 G B t6 w4 g4 (qa HB).1 (qa HB).2 (by omega)).mono ?_
 rintro e w5 ⟨rfl,u5,g5⟩
 replace i:=u5.old i (by omega)
 replace H:=H.then u5 (fun q U h=>by omega)
 clear L M F g4 u5
 have z5:(t6++qx B.toNat 8).size=28:=by rw[ByteArray.size_append,z4,qa J]
 generalize t6++qx B.toNat 8=t7 at g5 z5 f
 have L:=qg i 0
 have M:=qg i 1
 have F:=qg i 2
 simp at L M F
 go_wp2_with fail
 refine(q6j G _ t7 w5 g5 (by omega) (by omega) (by omega)).mono ?_
 rintro e w6 ⟨rfl,u6,g6⟩
 replace i:=u6.old i (by omega)
 replace H:=H.then u6 (fun q U h=>by omega)
 clear L M F g5 u6
 have e3:((X.length:Int)%65536).toNat=X.length%65536:=by omega
 rw[e3,←qa f] at g6
 have zh:=qof ch n A B X.length
 have b7:qh8 ch n A B X=X.foldl qfx (qqd ch n A B X.length):=rfl
 generalize qqd ch n A B X.length=hd at g6 zh b7
 have c1:=qb b7
 clear e3 b7 z2 z3 z4 z5 f c0 f5 Z HA HB
 have F:=qg i 2
 simp at F
 go_wp2_with fail
 clear F
 obtain⟨wo,rfl⟩:∃wo:World,wo=w6:=⟨_,rfl⟩
 have HU:=qb hu
 clear hu
 go_loopw [9,38] (fun _ iv wr=>∃k:Nat,iv = .int .i64 (k:Int)∧k≤X.length∧Wr wr G ((X.take k).foldl qfx hd)∧qq w wr) (fun _ iv _=>X.length-(intOf iv).toNat)
 case atStart=>exact⟨0,rfl,Nat.zero_le _,g6,H⟩
 case round =>
  clear g6 H;obtain⟨k,rfl,hk,gk,C⟩:=hrel;obtain⟨z,rfl⟩:∃z:World,z=wr:=⟨_,rfl⟩;by_cases f1:k<X.length
  ·obtain⟨x,hx⟩:∃x,X[k]? = some x:=⟨_,List.getElem?_eq_getElem f1⟩;obtain⟨b,off,rfl,-,d6⟩:=((qa HU).new C).at hx;have Y:=f2 x (List.mem_of_getElem? hx);have E:=q0n X hd hx;have b6:=qp9 (X.take k) hd;rw[zh,List.length_take,Nat.min_eq_left hk] at b6;have g8:(k:Int)<(X.length:Int):=by omega
   have e7:=gk.lt;generalize (X.take k).foldl qfx hd=s0 at gk E b6;have HF:=qb E;have R:=qb Y;clear hx E Y;go_upto_region 9 with fail;refine wp_region_lit ?_;refine zi rfl (v:= .pointer (some ⟨b,off+k*36,none⟩)) (w':=z) (by simp only[execOp];go_simp) ?_;refine zi rfl (v:= .agg (zl x).toArray) (w':=z) (by simp only[execOp];go_simp) ?_;refine zi rfl (v:= .pointer (some ⟨z.heap.size,0,none⟩)) (w':=z.alloc (.cells qrc 254)) (by kernel_rfl) ?_;have n1:qq z (z.alloc (.cells qrc 254)):=(Upd.refl _ _).alloc _;have T:(z.alloc (.cells qrc 254)).heap[z.heap.size]? = some (.cells qrc 254 (0,0)):=qj _ _;generalize z.alloc (.cells qrc 254)=b8 at n1 T ⊢;refine wpList_store_row rfl _ _ _ rfl z.heap.size (zl x).toArray (by kernel_rfl) (by kernel_rfl) 254 _ T (by rw[List.size_toArray,qcb];exact Tryz.infoItem) (by have h9:qrc.size=36:=rfl;rw[h9];simp[qcb]) (by rw[List.all_toArray,List.all_eq_true];exact qol x) ?_;have m:=setRow_heap b8 z.heap.size _ (zl x).toArray 254 (0,0) T;have n2:qq z (b8.setRow z.heap.size (zl x).toArray):=n1.setRow (fun h=>by omega) _;generalize b8.setRow z.heap.size (zl x).toArray=f6 at m n2 ⊢;replace gk:=gk.new n2;replace C:=C.trans n2;have e8:G<z.heap.size:=e7;have e9:w.heap.size≤z.heap.size:=by omega
   generalize z.heap.size=I at m e8 e9 ⊢;clear n1 T n2 d6;have d7:=qat m 36 (by simp[qcb]);have c7:(zl x)[0]? = some (.bool x.offered):=rfl;have d5:=qow x.offered (zl x).toArray f6 (by rw[List.getElem?_toArray];exact c7);have f3:(1-qe6 x.offered).toNat=(if x.offered then 1 else 0)∧0≤1-qe6 x.offered∧1-qe6 x.offered≤1∧0≤qe6 x.offered∧qe6 x.offered≤1:=by cases x.offered<;>decide
   obtain⟨W,d4,f8,f9,g0⟩:=f3;have e5:=qb W;have a6:=qb d5;clear c7 d5 W;generalize c4:(zl x).toArray=IC at d7 a6;have g1:=qb c4;clear c4;go_wp2_with fail;refine(qa a6).mono ?_;rintro e f7 ⟨rfl,n3⟩;have m3:=_root_.Go.Proofs.YtfmkdoachjgjbaaGreatDoor.G.new n3;replace m:=m3.old m (fun h=>h);replace gk:=gk.new m3;replace C:=C.trans m3;clear m3 n3 d7 a6;go_wp2_with fail;refine(q6i G (1-qe6 x.offered) s0 f7 gk d4 (by omega) (by omega)).mono ?_;rintro e w4 ⟨rfl,u4,S⟩;replace m:=u4.old m (by omega);replace C:=C.then u4 (fun q U h=>by omega);clear u4;rw[qa e5] at S;have y4:(s0++qx (if x.offered then 1 else 0) 1).size=31+57*k:=by rw[ByteArray.size_append,b6,qaq];omega
   generalize c8:s0++qx (if x.offered then 1 else 0) 1=p4 at S y4;have d1:=qgw x 1 (by decide) m;have d2:=qgw x 2 (by decide) m;have K:=qgw x 35 (by decide) m;rw[qyz] at K;have dh:=qtz x m;replace d1:w4.cell? ⟨I,1,none⟩=some (.int .u64 x.h.id):=d1;clear d2 K dh gk;go_wp2_with fail;refine(qg3 G x.h.id p4 w4 S (qa R).id.1 (by have:=(qa R).id.2;omega) (by omega)).mono ?_;rintro e w5 ⟨rfl,u5,a7⟩;replace m:=u5.old m (by omega);replace C:=C.then u5 (fun q U h=>by omega);clear u5;have y5:(p4++qx x.h.id.toNat 8).size=39+57*k:=by rw[ByteArray.size_append,y4,qa J];omega
   generalize c9:p4++qx x.h.id.toNat 8=p5 at a7 y5;have d2:w5.cell? ⟨I,2,none⟩=some (.int .u64 x.h.amount):=qgw x 2 (by decide) m;clear d1 S;go_wp2_with fail;refine(qg3 G x.h.amount p5 w5 a7 (qa R).amount.1 (by have:=(qa R).amount.2;omega) (by omega)).mono ?_;rintro e w6 ⟨rfl,u6,a8⟩;replace m:=u6.old m (by omega);replace C:=C.then u6 (fun q U h=>by omega);clear u6;have y6:(p5++qx x.h.amount.toNat 8).size=47+57*k:=by rw[ByteArray.size_append,y5,qa J];omega
   generalize d0:p5++qx x.h.amount.toNat 8=p6 at a8 y6;have dh:=qtz x m;generalize c3:(x.h.hash.toList.map (Value.int .u8)).toArray=HC at dh;have O:=qb (qty G x.h.hash.toList p6 w6 a8 (by simp) (by omega));rw[c3] at O;clear d2 a7 c3 a8;go_wp2_with fail;refine(qa O).mono ?_;rintro e w7 ⟨rfl,u7,b3⟩;replace m:=u7.old m (by omega);replace C:=C.then u7 (fun q U h=>by omega);clear u7 O dh;have y7:(p6++strOfNums x.h.hash.toList).size=79+57*k:=by rw[ByteArray.size_append,y6,strOfNums_size];simp;omega
   generalize d3:p6++strOfNums x.h.hash.toList=p7 at b3 y7;have K:=qgw x 35 (by decide) m;rw[qyz] at K;obtain⟨ee,b4⟩:∃ee:Int,ee=x.h.expiry%18446744073709551616:=⟨_,rfl⟩;have b9:=qb (show 0≤ee∧ee<18446744073709551616 by omega);have f4:IntKind.u64.wrap x.h.expiry=ee:=by rw[IntKind.wrap_u64,b4]
   have e4:=qb b4;clear b4;go_wp2_with fail;refine(qg3 G ee p7 w7 b3 (qa b9).1 (qa b9).2 (by omega)).mono ?_;rintro e w8 ⟨rfl,u8,c2⟩;replace m:=u8.old m (by omega);replace C:=C.then u8 (fun q U h=>by omega);clear u8;have d8:p7++qx ee.toNat 8=(X.take (k+1)).foldl qfx hd:=by
    rw[qa HF,←d3,←d0,←c9,←c8,qa e4];rfl
   rw[d8] at c2;clear K f4 c8 c9 d0 d3 d8 b3;go_wp2;go_roundw
   case rel=>exact⟨k+1,by go_num,by omega,c2,C⟩
   case measure=>simp[intOf];omega
  ·obtain rfl:k=X.length:=by omega
   rw[List.take_length,←qa c1] at gk;generalize d9:qh8 ch n A B X=tt at gk c1;have e6:=qb d9;clear d9;go_wp2_with fail;refine(qft G tt z gk).mono ?_;rintro e w9 ⟨rfl,rfl⟩;go_wp2;go_ret;exact⟨by rw[qa e6];rfl,C⟩
end Go.Proofs.YtfmkdoachjgjbaaGreatDoor
