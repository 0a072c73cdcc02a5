/-
  wire.May.
-/
import Derived.Test.YtjpmomdechibmaaGreatDoorFld3
import Derived.Test.YtjpmomdechibmaaGreatDoorMbj
import Derived.Maps.OwnSet
import Derived.Test.YtjpmomdechibmaaGreatDoorMbb
import Derived.Test.YtjpmomdechibmaaGreatDoorMca
import Derived.Test.YtjpmomdechibmaaGreatDoorMbg
import Derived.Test.YtjpmomdechibmaaGreatDoorTxt
set_option linter.unusedVariables false
set_option linter.unusedSimpArgs false
namespace Go.Proofs.YtjpmomdechibmaaGreatDoor
open Go.RowKit
def qhf(xs:List Fld)(m:MsgV):MsgV:=xs.foldl (fun m x=>x.zero m) m
theorem zero_len(x:Fld)(m:MsgV)(h:m.hash.length=32):(x.zero m).hash.length=32:=by cases x<;>first | exact h | exact qo
theorem q0p{xs:List Fld}{i:Nat}{x:Fld}(h:xs[i]? = some x)(m:MsgV):qhf (xs.take (i+1)) m=x.zero (qhf (xs.take i) m):=by
 unfold qhf
 rw[List.take_add_one,h,List.foldl_append]
 rfl
set_option maxRecDepth 100000 in
set_option maxHeartbeats 1000000 in
theorem qxx(base A:Nat)(v:Value)(xs:List Fld)(m:MsgV)(w:World)(hv:FldsO base w v xs)(U:MsB w A m)(V:A<base)(b3:xs.length≤100) :
  Calls Tryz.prog 65 #[qia,v,.pointer (some ⟨A,0,none⟩)] w fun e w'=>e = .returned (.tuple #[])∧MsB w' A (qhf xs m)∧Upd (· = A) w w':=by
 obtain⟨vs,l,a8,H⟩:=hv
 obtain⟨va,a5,K⟩:=qv l
 have j:∀(i:Nat) (u:Value),vs[i]? = some u→∃g,va=some ⟨g,0,none⟩∧base≤g∧w.cell? ⟨g,i,none⟩=some u:=by
  intro i u z
  have J:=(List.getElem?_eq_some_iff.1 z).1
  rcases l.2 with ⟨e,e0⟩ | ⟨g,cap,T,e,y,hg,_,_,hs,ht⟩
  ·omega
  ·rw[K] at e
   injection e with e1
   refine⟨g,e1,y,?_⟩
   rw[qg hg]
   have:T.toList[i]? = some u:=by
    rw[←z,←ht,List.getElem?_take_of_lt (by omega)]
   rwa [Array.getElem?_toList] at this
 subst K
 clear l
 have q:=qb j
 have O:=qb H
 clear j H
 unfold qia
 go_enter Tryz.func65,Tryz.ntmps65
 go_upto_region 1 with fail
 have M:qx w (w.alloc (.cells #[.pointer none,.pointer none] 138)):=(Upd.refl _ _).alloc _
 have y:=qi w (.cells #[.pointer none,.pointer none] 138)
 have W:=U.lt
 generalize w.alloc (.cells #[.pointer none,.pointer none] 138)=w1 at M y ⊢
 have D:A≠w.heap.size:=by omega
 generalize w.heap.size=B at y D ⊢
 have HB:=qb y
 have N:=qb (U.new M)
 have R:=qb M
 have a9:(xs.length:Int)≤100:=by omega
 clear y U M W
 go_wp2_with fail
 go_loopw [7,10] (fun _ iv wr=>∃i:Nat,iv = .int .i64 (i:Int)∧i≤xs.length∧Hid (MsB wr A (qhf (xs.take i) m))∧Upd (· = A) w1 wr) (fun _ iv _=>xs.length-(intOf iv).toNat)
 case atStart=>exact⟨0,rfl,Nat.zero_le _,N,Upd.refl _ _⟩
 case round =>
  obtain⟨i,rfl,hi,X,C⟩:=hrel
  obtain⟨t,rfl⟩:∃t:World,t=wr:=⟨_,rfl⟩
  by_cases J:i<xs.length
  ·obtain⟨x,hx⟩:∃x,xs[i]? = some x:=⟨_,List.getElem?_eq_getElem J⟩
   obtain⟨u,z⟩:∃u,vs[i]? = some u:=⟨_,List.getElem?_eq_getElem (by omega)⟩
   obtain⟨g,rfl,a6,hc⟩:=qa q i u z
   have hf:=qa O i x u hx z
   have I:qjn base t u x:=(hf.new (qa R)).upd C (fun k hk e=>by omega)
   have Y:t.cell? ⟨g,i,none⟩=some u:=C.cell ((qa R).cell hc (fun h=>h)) (by show ¬g=A;omega)
   have o:=C.old (qa HB) (fun e=>D e.symm)
   have rP:=qaj o 2 rfl
   have d0:t.cell? ⟨B,0,none⟩=some (.pointer none):=qg o 0
   have d1:t.cell? ⟨B,1,none⟩=some (.pointer none):=qg o 1
   obtain⟨F,a4,rfl,hE,f⟩:=q2p x base A _ u t I (qa X) V
   have L:=q0p hx m
   have HZ:=qb L
   have a7:(i:Int)<(xs.length:Int):=by omega
   unfold qia at f
   clear hf I hc o L hx z
   go_wp2_with fail
   refine f.mono ?_
   rintro e w3 ⟨rfl,E,u3⟩
   have Z:=C.trans u3
   have P:=qb E
   clear f rP d0 d1 Y hE E u3 C
   go_wp2_with fail
   go_roundw
   case rel=>exact⟨i+1,by go_num,by omega,by rw[qa HZ];exact P,Z⟩
   case measure=>simp[intOf];omega
  ·obtain rfl:i=xs.length:=by omega
   rw[List.take_length] at X
   go_wp2_with fail
   go_end0
   exact⟨rfl,qa X,((qa R).mono (fun _ _ h=>h.elim)).trans C⟩
theorem Tryz.flatMsg:qck Tryz.prog 5 30=some (.int .i64 :: .int .u32 :: .int .u64 :: .int .u64::(List.replicate 32 (.int .u8)++[.int .i64,.int .i64])):=by kernel_rfl
theorem Tryz.eqMsg:eqB Tryz.prog 5 30=true:=by kernel_rfl
theorem Tryz.aggMsg:qhr Tryz.prog 30=true:=by kernel_rfl
theorem wfI{n:Int}(h : -9223372036854775808≤n∧n≤9223372036854775807):(Lit.int .i64 n).wf=true:=by
 simp[Lit.wf,IntKind.min,IntKind.max,IntKind.signed,IntKind.bits];omega
theorem wfU{n:Int}(h:0≤n∧n<18446744073709551616):(Lit.int .u64 n).wf=true:=by
 simp[Lit.wf,IntKind.min,IntKind.max,IntKind.signed,IntKind.bits];omega
theorem wfW{n:Int}(h:0≤n∧n<4294967296):(Lit.int .u32 n).wf=true:=by
 simp[Lit.wf,IntKind.min,IntKind.max,IntKind.signed,IntKind.bits];omega
theorem qwp{m:MsgV}(h:MsgOk m):qdg (.int .i64 :: .int .u32 :: .int .u64 :: .int .u64::(List.replicate 32 (.int .u8)++[.int .i64,.int .i64])) m.cells :=
 ⟨_,_,rfl,⟨_,rfl,wfI h.kind⟩,_,_,rfl,⟨_,rfl,wfW h.ch⟩,_,_,rfl,⟨_,rfl,wfU h.id⟩,_,_,rfl,⟨_,rfl,wfU h.amount⟩,qdg.app (qjz h.len h.hash) ⟨_,_,rfl,⟨_,rfl,wfI h.expiry⟩,_,_,rfl,⟨_,rfl,wfI h.number⟩,rfl⟩⟩
def eqMsg(x y:Value):Sem Value:=binOp .eql 30 x y
theorem qvs(x y:Value):binOp .eql 30 x y=eqMsg x y:=rfl
theorem q16{a b:MsgV}(q:a.hash.length=32)(t:b.hash.length=32)(h:a.cells=b.cells):a=b:=by
 obtain⟨a1,a2,a3,v,i,w,x⟩:=a
 obtain⟨b1,b2,y,z,j,C,D⟩:=b
 unfold MsgV.cells at h
 simp only[List.cons.injEq,Value.int.injEq,true_and] at h
 obtain⟨rfl,rfl,rfl,rfl,h⟩:=h
 have f:i.length=32:=q
 have g:j.length=32:=t
 have:=List.append_inj h (by simp[f,g])
 obtain⟨m,l⟩:=this
 have o:i=j:=qjy m
 simp only[List.cons.injEq,Value.int.injEq,true_and,and_true] at l
 obtain⟨rfl,rfl⟩:=l
 rw[o]
instance:DecidableEq MsgV:=fun a b =>
 decidable_of_iff (a.kind=b.kind∧a.ch=b.ch∧a.id=b.id∧a.amount=b.amount∧a.hash=b.hash∧a.expiry=b.expiry∧a.number=b.number)
  ⟨by rintro ⟨h1,h2,h3,h4,h5,h6,h7⟩;cases a;cases b;simp_all,by rintro rfl;exact⟨rfl,rfl,rfl,rfl,rfl,rfl,rfl⟩⟩
theorem zb7{a b:MsgV}(f:MsgOk a)(g:MsgOk b)(w:World):(eqMsg (.agg a.cells.toArray) (.agg b.cells.toArray)).run Tryz.prog w = .ok (.bool (decide (a=b))) w:=by
 refine qmb 5 (by decide) Tryz.eqMsg Tryz.flatMsg Tryz.aggMsg (qwp f) (qwp g) (decide (a=b)) ?_ w
 constructor
 ·intro e
  rw[of_decide_eq_true e]
 ·intro e
  exact decide_eq_true (q16 f.len g.len e)
theorem zaw{m:MsgV}(h:MsgOk m)(x:Fld):MsgOk (x.zero m):=by
 have z:∀b∈zz,0≤b∧b≤255:=qdn
 cases x
 ·exact⟨h.kind,show (0:Int)≤0∧(0:Int)<4294967296 by decide,h.id,h.amount,h.len,h.hash,h.expiry,h.number⟩
 ·exact⟨h.kind,h.ch,show (0:Int)≤0∧(0:Int)<18446744073709551616 by decide,h.amount,h.len,h.hash,h.expiry,h.number⟩
 ·exact⟨h.kind,h.ch,h.id,show (0:Int)≤0∧(0:Int)<18446744073709551616 by decide,h.len,h.hash,h.expiry,h.number⟩
 ·exact⟨h.kind,h.ch,h.id,h.amount,qo,z,h.expiry,h.number⟩
 ·exact⟨h.kind,h.ch,h.id,h.amount,h.len,h.hash,show (-9223372036854775808:Int)≤0∧(0:Int)≤9223372036854775807 by decide,h.number⟩
 ·exact⟨h.kind,h.ch,h.id,h.amount,h.len,h.hash,h.expiry,show (-9223372036854775808:Int)≤0∧(0:Int)≤9223372036854775807 by decide⟩
theorem q8w(xs:List Fld):∀ {m:MsgV},MsgOk m→MsgOk (qhf xs m):=by
 induction xs with
 | nil=>intro m h;exact h
 | cons x xs f=>intro m h;exact f (zaw h x)
def qf5(k:Int):MsgV:=⟨k,0,0,0,zz,0,0⟩
theorem qze{k:Int}(h : -9223372036854775808≤k∧k≤9223372036854775807):MsgOk (qf5 k) :=
 ⟨h,show (0:Int)≤0∧(0:Int)<4294967296 by decide,show (0:Int)≤0∧(0:Int)<18446744073709551616 by decide,show (0:Int)≤0∧(0:Int)<18446744073709551616 by decide,qo,qdn,show (-9223372036854775808:Int)≤0∧(0:Int)≤9223372036854775807 by decide,show (-9223372036854775808:Int)≤0∧(0:Int)≤9223372036854775807 by decide⟩
theorem q0o(xs:List Fld):∀m:MsgV,(qhf xs m).kind=m.kind:=by
 induction xs with
 | nil=>intro m;rfl
 | cons x xs f=>intro m;exact(f _).trans (by cases x<;>rfl)
def qai(m:MsgV):Bool :=
 match fieldsOf m.kind with
 | none=>false
 | some xs=>if m.expiry<0∨1073741824<m.expiry∨m.number<0∨65535<m.number∨1125899906842624<m.amount then false else decide (qhf xs m=qf5 m.kind)
theorem q66{m:MsgV}(h:fieldsOf m.kind=none):qai m=false:=by unfold qai;rw[h]
theorem q69{m:MsgV}{xs:List Fld}(h:fieldsOf m.kind=some xs):qai m=if m.expiry<0∨1073741824<m.expiry∨m.number<0∨65535<m.number∨1125899906842624<m.amount then false else decide (qhf xs m=qf5 m.kind):=by unfold qai;rw[h]
theorem qtq{k:Int}{xs:List Fld}(h:fieldsOf k=some xs):xs.length≤100:=by
 unfold fieldsOf at h
 repeat' (split at h)
 all_goals first
  | (injection h with h;subst h;decide)
  | cases h
attribute [local go_sem ↓ high] qab qac qag qaa qvs
attribute [local go_sem] qc2 qc3 qc6 zn
theorem qvc(k:Int)(w:World):(qju #[(0,.int .i64 k)]).run Tryz.prog w = .ok (.agg (qf5 k).cells.toArray) w:=run_build w _ _ _ (by kernel_rfl)
set_option maxRecDepth 100000 in
set_option maxHeartbeats 1000000 in
theorem qp1(m:MsgV)(D:MsgOk m)(w:World):Calls Tryz.prog 44 #[.agg m.cells.toArray] w (qa5 (.bool (qai m)) w):=by
 go_enter Tryz.func44,Tryz.ntmps44
 go_upto_region 1 with fail
 have x:=qb6 w m D.len
 have F:qx w (w.alloc (.cells m.cells.toArray 30)):=(Upd.refl _ _).alloc _
 generalize w.alloc (.cells m.cells.toArray 30)=w1 at F x ⊢
 obtain⟨A,y⟩:∃A,A=w.heap.size:=⟨_,rfl⟩
 rw[←y] at x ⊢
 have a4:w.heap.size≤A:=by omega
 clear y
 obtain⟨P,-,-,-,-,-,-⟩:=x.cells
 have O:=qb x
 clear x
 cases q:fieldsOf m.kind with
 | none =>
  have j:=qb (q66 q)
  have z:=qvv m.kind q w1
  clear q D
  go_wp2_with fail
  refine z.mono ?_
  rintro e T ⟨rfl,E⟩
  have g:=F.trans E
  clear z P
  go_wp2_with fail
  go_ret
  exact⟨by rw[qa j];rfl,g⟩
 | some xs =>
  have j:=qb (q69 q)
  have K:=qtq q
  have z:=qyu m.kind xs q w1
  have I:=D.kind
  have U:=qb D
  clear q D
  go_wp2_with fail
  refine z.mono ?_
  rintro e T ⟨v,rfl,E,C⟩
  have f:=(qa O).new E
  obtain⟨-,-,-,m3,L,M,-⟩:=f.cells
  have g:=F.trans E
  have H:=qb C
  have l:=(qa O).lt
  clear z P C F E
  by_cases V:m.expiry<0
  ·rw[if_pos (.inl V)] at j
   clear f
   go_wp2_with fail
   go_ret
   exact⟨by rw[qa j];rfl,g⟩
  by_cases X:1073741824<m.expiry
  ·rw[if_pos (.inr (.inl X))] at j
   clear f
   go_wp2_with fail
   go_ret
   exact⟨by rw[qa j];rfl,g⟩
  by_cases Y:m.number<0
  ·rw[if_pos (.inr (.inr (.inl Y)))] at j
   clear f
   go_wp2_with fail
   go_ret
   exact⟨by rw[qa j];rfl,g⟩
  by_cases Z:65535<m.number
  ·rw[if_pos (.inr (.inr (.inr (.inl Z))))] at j
   clear f
   go_wp2_with fail
   go_ret
   exact⟨by rw[qa j];rfl,g⟩
  by_cases e5:1125899906842624<m.amount
  ·rw[if_pos (.inr (.inr (.inr (.inr e5))))] at j
   clear f
   go_wp2_with fail
   go_ret
   exact⟨by rw[qa j];rfl,g⟩
  rw[if_neg (by omega)] at j
  have t:=qxx w1.heap.size A v xs m T (qa H) f l K
  unfold qia at t
  clear f
  go_wp2_with fail
  refine t.mono ?_
  rintro e w3 ⟨rfl,o,R⟩
  have N:qx w w3:=g.then R (fun i hi e=>by omega)
  have hz:=q0o xs m
  have J:=q8w xs (qa U)
  obtain⟨z0,-,-,-,-,-,-⟩:=o.cells
  rw[hz] at z0
  have rM:=o.row
  have a5:=fun W=>qvc m.kind W
  have a6:=fun W=>zb7 J (qze I) W
  clear t R m3 L M o
  go_wp2_with fail
  go_ret
  exact⟨by rw[qa j];rfl,N⟩
end Go.Proofs.YtjpmomdechibmaaGreatDoor
namespace Go.Proofs.YtjpmomdechibmaaGreatDoor
open Go.RowKit
def fnR(v:Value):Option (DataW Unit × List MemPlace) :=
 match v with
 | .func (.func F) a b=>if a.size=0∧b.size=0 then some (.lit (.int .i64 F),[]) else none
 | .nilFunc=>some (.lit (.int .i64 (-1)),[])
 | _=>none
theorem q9h{v:Value}{F:Nat}{ps:List MemPlace}(h:fnR v=some (.lit (.int .i64 F),ps)):v = .func (.func F) #[] #[]:=by
 unfold fnR at h
 split at h
 ·split at h
  ·rename_i f
   simp only[Option.some.injEq,Prod.mk.injEq,DataW.lit.injEq,Lit.int.injEq,true_and] at h
   have e:_=F:=Int.ofNat.inj h.1
   rw[Array.eq_empty_of_size_eq_zero f.1,Array.eq_empty_of_size_eq_zero f.2,e]
  ·cases h
 ·simp only[Option.some.injEq,Prod.mk.injEq,DataW.lit.injEq,Lit.int.injEq,true_and] at h
  omega
 ·cases h
def q6d:DataW Unit:=((((((((DataW.map []).put (.int .i64 3) (.lit (.int .i64 66))).put (.int .i64 4) (.lit (.int .i64 67))).put (.int .i64 5) (.lit (.int .i64 68))).put (.int .i64 6) (.lit (.int .i64 69))).put (.int .i64 7) (.lit (.int .i64 70))).put (.int .i64 8) (.lit (.int .i64 71))).put (.int .i64 9) (.lit (.int .i64 72)))
def qjg(w:World)(b:Nat):Prop:=w.ownsMap Tryz.prog 3 fnR b 7 q6d
set_option maxRecDepth 100000 in
set_option maxHeartbeats 1000000 in
theorem qv8(w:World):Calls Tryz.prog 45 #[] w fun e w'=>∃b,e = .returned (.map (some b))∧qx w w'∧qjg w' b:=by
 have K:=Maps.int_keyed Tryz.underlying3
 have x:=World.ownsMap_made w Tryz.prog 3 fnR
 have I:qx w (w.alloc (.map #[] 0)):=(Upd.refl _ _).alloc _
 have key:∀k:Int,(Lit.int .i64 k).wf=true→keyOf Tryz.prog 3 (.int .i64 k)=some (.int .i64 k):=fun k i=>Maps.keyOf_int_mk Tryz.underlying3 i
 have N:=@run_makeMap Tryz.prog
 obtain⟨w1,P,y,j⟩:=x.update K Tryz.underlying107 (by decide) (key 3 (by decide)) (val:= .func (.func 66) #[] #[]) (d:= .lit (.int .i64 66)) (ps:=[]) rfl
 obtain⟨Y,R,z,l⟩:=y.update K Tryz.underlying107 (by decide) (key 4 (by decide)) (val:= .func (.func 67) #[] #[]) (d:= .lit (.int .i64 67)) (ps:=[]) rfl
 obtain⟨Z,T,C,m⟩:=z.update K Tryz.underlying107 (by decide) (key 5 (by decide)) (val:= .func (.func 68) #[] #[]) (d:= .lit (.int .i64 68)) (ps:=[]) rfl
 obtain⟨w4,U,D,o⟩:=C.update K Tryz.underlying107 (by decide) (key 6 (by decide)) (val:= .func (.func 69) #[] #[]) (d:= .lit (.int .i64 69)) (ps:=[]) rfl
 obtain⟨w5,V,E,q⟩:=D.update K Tryz.underlying107 (by decide) (key 7 (by decide)) (val:= .func (.func 70) #[] #[]) (d:= .lit (.int .i64 70)) (ps:=[]) rfl
 obtain⟨w6,W,F,t⟩:=E.update K Tryz.underlying107 (by decide) (key 8 (by decide)) (val:= .func (.func 71) #[] #[]) (d:= .lit (.int .i64 71)) (ps:=[]) rfl
 obtain⟨J,X,H,v⟩:=F.update K Tryz.underlying107 (by decide) (key 9 (by decide)) (val:= .func (.func 72) #[] #[]) (d:= .lit (.int .i64 72)) (ps:=[]) rfl
 have O:qx w J:=by
  have f:∀ {a b:World},a.grownBy b (some w.heap.size)→qx w a→qx w b:=fun g n=>n.grown g (fun k i M=>by injection i with i;omega)
  exact f v (f t (f q (f o (f m (f l (f j I))))))
 have L:qjg J w.heap.size:=H
 clear key K x y z C D E F H j l m o q t v I
 go_enter Tryz.func45,Tryz.ntmps45
 go_wp2_with fail
 go_ret
 exact⟨_,rfl,O,L⟩
theorem qfa{w:World}{b:Nat}(h:qjg w b)(k:Int)(F:Nat)(j:(Lit.int .i64 k).wf=true)(i:Maps.has q6d (.int .i64 k)=true)(g:q6d.atKey (.int .i64 k) (.lit (.int .i64 (-1))) = .lit (.int .i64 F)) :
  (Instr.lookup 107 (.map (some b)) (.int .i64 k) true).run Tryz.prog w = .ok (.tuple #[.func (.func F) #[] #[],.bool true]) w:=by
 obtain⟨v,ps,l,f⟩:=h.look_ok (Maps.int_keyed Tryz.underlying3) Tryz.underlying107 (z:= .nilFunc) (zd:= .lit (.int .i64 (-1))) (zp:=[]) (by kernel_rfl) rfl (Maps.keyOf_int_mk Tryz.underlying3 j)
 rw[g] at f
 rw[l,q9h f,i]
theorem zci{w:World}{b:Nat}(h:qjg w b):(Instr.lookup 107 (.map (some b)) (.int .i64 3) true).run Tryz.prog w = .ok (.tuple #[.func (.func 66) #[] #[],.bool true]) w:=qfa h 3 _ (by decide) (by decide +kernel) rfl
theorem zcj{w:World}{b:Nat}(h:qjg w b):(Instr.lookup 107 (.map (some b)) (.int .i64 4) true).run Tryz.prog w = .ok (.tuple #[.func (.func 67) #[] #[],.bool true]) w:=qfa h 4 _ (by decide) (by decide +kernel) rfl
theorem zck{w:World}{b:Nat}(h:qjg w b):(Instr.lookup 107 (.map (some b)) (.int .i64 5) true).run Tryz.prog w = .ok (.tuple #[.func (.func 68) #[] #[],.bool true]) w:=qfa h 5 _ (by decide) (by decide +kernel) rfl
theorem zcl{w:World}{b:Nat}(h:qjg w b):(Instr.lookup 107 (.map (some b)) (.int .i64 6) true).run Tryz.prog w = .ok (.tuple #[.func (.func 69) #[] #[],.bool true]) w:=qfa h 6 _ (by decide) (by decide +kernel) rfl
theorem zcm{w:World}{b:Nat}(h:qjg w b):(Instr.lookup 107 (.map (some b)) (.int .i64 7) true).run Tryz.prog w = .ok (.tuple #[.func (.func 70) #[] #[],.bool true]) w:=qfa h 7 _ (by decide) (by decide +kernel) rfl
theorem zcn{w:World}{b:Nat}(h:qjg w b):(Instr.lookup 107 (.map (some b)) (.int .i64 8) true).run Tryz.prog w = .ok (.tuple #[.func (.func 71) #[] #[],.bool true]) w:=qfa h 8 _ (by decide) (by decide +kernel) rfl
theorem zco{w:World}{b:Nat}(h:qjg w b):(Instr.lookup 107 (.map (some b)) (.int .i64 9) true).run Tryz.prog w = .ok (.tuple #[.func (.func 72) #[] #[],.bool true]) w:=qfa h 9 _ (by decide) (by decide +kernel) rfl
structure Tb(w:World):Prop where
 glob:Glob w
 spans:Spans w
 tabs:Tabs w
 deb:Deb w
structure Apart(S:Nat→Prop):Prop where
 a:¬S 0
 b:¬S 2
 c:¬S 3
 d:¬S 1
 e:¬S 5
theorem Tb.upd{S:Nat→Prop}{w w':World}(h:Tb w)(u:Upd S w w')(a:Apart S):Tb w':=⟨h.glob.upd u a.a,h.spans.upd u a.b,h.tabs.upd u a.c a.d,h.deb.upd u a.e⟩
theorem Tb.new{w w':World}(h:Tb w)(u:qx w w'):Tb w':=⟨h.glob.new u,h.spans.new u,h.tabs.new u,h.deb.new u⟩
theorem Tb.lt{w:World}(h:Tb w):0<w.heap.size∧2<w.heap.size∧3<w.heap.size∧1<w.heap.size∧5<w.heap.size :=
 ⟨World.block_lt_of_cell? w _ (h.glob.events 0 (by decide)),World.block_lt_of_cell? w _ (h.spans.spans 0 (by decide)),h.tabs.lt.1,h.tabs.lt.2,World.block_lt_of_cell? w _ (h.deb.tab 0 (by decide))⟩
theorem Apart.fr{S:Nat→Prop}{w:World}(h:Apart S)(t:Tb w)(w':World):Apart (Fr S w w'):=by
 obtain⟨a,b,c,d,e⟩:=t.lt
 refine⟨?_,?_,?_,?_,?_⟩
 ·rintro (k | k)
  ·exact h.a k
  ·omega
 ·rintro (k | k)
  ·exact h.b k
  ·omega
 ·rintro (k | k)
  ·exact h.c k
  ·omega
 ·rintro (k | k)
  ·exact h.d k
  ·omega
 ·rintro (k | k)
  ·exact h.e k
  ·omega
theorem Apart.mono{S T:Nat→Prop}(h:Apart S)(st:∀k,T k→S k):Apart T:=⟨fun k=>h.a (st _ k),fun k=>h.b (st _ k),fun k=>h.c (st _ k),fun k=>h.d (st _ k),fun k=>h.e (st _ k)⟩
theorem Fr.comp{S:Nat→Prop}{w1 f g:World}(h:w1.heap.size≤f.heap.size)(i:f.heap.size≤g.heap.size):∀k,Fr (Fr S w1 f) f g k→Fr S w1 g k:=by
 rintro k ((h | h) | h)
 ·exact .inl h
 ·exact .inr ⟨h.1,by omega⟩
 ·exact .inr ⟨by omega,h.2⟩
theorem Upd.fr{S:Nat→Prop}{w1 f g:World}(u:Upd S w1 f)(v:Upd (Fr S w1 f) f g):Upd S w1 g:=u.then v fun i j h=>by
 rcases h with h | h
 ·exact h
 ·omega
theorem ChS.comp{S:Nat→Prop}{w1 j i:World}{g:Nat}{c:Ch}(h:ChS i g (Fr (Fr S w1 j) j i) c)(l:w1.heap.size≤j.heap.size)(m:j.heap.size≤i.heap.size):ChS i g (Fr S w1 i) c:=by
 obtain⟨a,b,d,h⟩:=h
 refine⟨a,b,d,h.wider (Fr.comp l m) (fun k f=> ?_)⟩
 have:=h.lt g h.inG
 rcases f with f | f
 ·exact h.lt k (.inl (.inl f))
 ·exact f.2
theorem ChS.frW{S:Nat→Prop}{w1 f:World}{g:Nat}{c:Ch}(h:ChS f g S c):ChS f g (Fr S w1 f) c:=by
 obtain⟨a,b,d,h⟩:=h
 exact h.fr w1
theorem ChS.later{S:Nat→Prop}{w1 j i:World}{g:Nat}{c:Ch}(h:ChS i g (Fr S j i) c)(l:w1.heap.size≤j.heap.size):ChS i g (Fr S w1 i) c:=by
 obtain⟨a,b,d,h⟩:=h
 refine⟨a,b,d,h.wider (fun k f=> ?_) (fun k f=> ?_)⟩
 ·rcases f with f | f
  ·exact .inl f
  ·exact .inr ⟨by omega,f.2⟩
 ·rcases f with f | f
  ·exact h.lt k (.inl f)
  ·exact f.2
theorem ChS.grow{S:Nat→Prop}{w0 w1 i:World}{g:Nat}{c:Ch}(h:ChS i g (Fr S w0 w1) c)(j:w1.heap.size≤i.heap.size):ChS i g (Fr S w0 i) c:=by
 obtain⟨a,b,d,h⟩:=h
 refine⟨a,b,d,h.wider (fun k f=> ?_) (fun k f=> ?_)⟩
 ·rcases f with f | f
  ·exact .inl f
  ·exact .inr ⟨f.1,by omega⟩
 ·rcases f with f | f
  ·exact h.lt k (.inl f)
  ·exact f.2
end Go.Proofs.YtjpmomdechibmaaGreatDoor
namespace Go.Proofs.YtjpmomdechibmaaGreatDoor
open Go.RowKit Go.Sort
theorem get!_of{X:List Item}{n:Nat}{x:Item}(h:X[n]? = some x):X[n]! = x:=by rw[List.getElem!_eq_getElem?_getD,h];rfl
def qlg(w:World)(g off:Nat)(X:List Item):Prop :=
 ∃C T f,w.heap[g]? = some (.cells C T f)∧off+X.length*36≤C.size∧∀i x,X[i]? = some x→∀j,j<36→C[off+i*36+j]? = (ze x)[j]?
theorem qlg.row{w:World}{g off:Nat}{xs:List Item}(h:qlg w g off xs){i:Nat}{x:Item}(m:xs[i]? = some x):zr w g (off+i*36) 36=some (ze x).toArray:=by
 obtain⟨C,T,v,o,y,q⟩:=h
 have l:i<xs.length:=(List.getElem?_eq_some_iff.1 m).1
 have f:off+i*36+36≤C.size:=by have:=Nat.mul_le_mul_right 36 (show i+1≤xs.length from l);omega
 rw[qbz o _ _ f]
 congr 1
 apply Array.ext'
 apply List.ext_getElem?
 intro j
 rw[Array.getElem?_toList,Array.getElem?_extract]
 by_cases t:j<36
 ·rw[if_pos (by omega),q i x m j t]
 ·rw[if_neg (by omega),List.getElem?_eq_none (by rw[qb5];omega)]
theorem qlg.upd{S:Nat→Prop}{w w':World}{b off:Nat}{xs:List Item}(h:qlg w b off xs)(u:Upd S w w')(i:¬S b):qlg w' b off xs:=by
 obtain⟨C,T,f,g,r⟩:=h
 exact⟨C,T,f,u.old g i,r⟩
theorem qlg.lt{w:World}{g off:Nat}{xs:List Item}(h:qlg w g off xs):g<w.heap.size:=by
 obtain⟨C,T,i,f,r⟩:=h
 exact zq f
theorem qc4.toR{w:World}{g off:Nat}{xs:List Item}(h:qc4 w g off xs):qlg w g off xs:=by
 obtain⟨C,T,l,q,m⟩:=h
 refine⟨C,T,_,l,q,fun i x f j o=> ?_⟩
 rw[m i (List.getElem?_eq_some_iff.1 f).1 j o,get!_of f]
def qer(w:World)(v:Value)(X:List Item):Prop:=(∃a c,v = .slice a 0 c∧X=[])∨∃g off cap,v = .slice (some ⟨g,off,none⟩) X.length cap∧qlg w g off X
theorem qer.new{w w':World}{v:Value}{X:List Item}(h:qer w v X)(u:qx w w'):qer w' v X:=by
 rcases h with h | ⟨g,off,cap,e,h⟩
 ·exact .inl h
 ·exact .inr ⟨g,off,cap,e,h.upd u (fun h=>h)⟩
theorem qou.toR{w:World}{v:Value}{X:List Item}(h:qou w v X):qer w v X:=by
 rcases h with h | ⟨g,cap,e,h⟩
 ·exact .inl h
 ·exact .inr ⟨g,0,cap,e,h.toR⟩
theorem qer.slice{w:World}{v:Value}{X:List Item}(h:qer w v X):∃a c,v = .slice a X.length c:=by
 rcases h with ⟨_,_,rfl,rfl⟩ | ⟨g,off,cap,rfl,_⟩
 ·exact⟨_,_,rfl⟩
 ·exact⟨_,_,rfl⟩
theorem qi6{w:World}{base:Nat}{e:TypeId}{size:Nat}{v:Value}{n:Nat}{xs:List Value}(h:w.ownsRow base e size v n xs):∀k,v.ownBlock=some k→base≤k:=by
 intro k f
 rcases h.2 with ⟨rfl,_⟩ | ⟨g,cap,i,rfl,j,_⟩
 ·simp[Value.ownBlock] at f
 ·simp[Value.ownBlock] at f;omega
theorem qer.at{w:World}{a:Option Addr}{n c:Nat}{X:List Item}(h:qer w (.slice a n c) X){i:Nat}{x:Item}(f:X[i]? = some x) :
  ∃b off,a=some ⟨b,off,none⟩∧n=X.length∧zr w b (off+i*36) 36=some (ze x).toArray:=by
 rcases h with ⟨_,_,e,rfl⟩ | ⟨b,off,cap,e,g⟩
 ·simp at f
 ·cases e
  exact⟨b,off,rfl,rfl,g.row f⟩
end Go.Proofs.YtjpmomdechibmaaGreatDoor
namespace Go.Proofs.YtjpmomdechibmaaGreatDoor
open Go.RowKit
theorem qi5(g:Nat)(x:Int)(f:Nat)(wi:Int)(s:ByteArray)(w:World)(l:wi=f)(o:Wr w g s)(i:1≤f)(j:f≤8)(m:0≤x)(q:x<2 ^ (8*f))(t:s.size≤1073741824) :
  Calls Tryz.prog 86 #[.pointer (some ⟨g,0,none⟩),.int .u64 x,.int .i64 wi] w fun e w'=>e = .returned (.int .i64 0)∧Upd (fun k=>k=g) w w'∧Wr w' g (s++qdj x.toNat f):=by
 subst l
 obtain⟨n,rfl⟩:=Int.eq_ofNat_of_zero_le m
 rw[Int.toNat_natCast]
 exact qzp g n f s w o i j (by exact_mod_cast q) t
theorem qh5(g:Nat)(x:Int)(s:ByteArray)(w:World)(i:Wr w g s)(f:0≤x)(j:x<18446744073709551616)(l:s.size≤1073741824) :
  Calls Tryz.prog 86 #[.pointer (some ⟨g,0,none⟩),.int .u64 x,.int .i64 8] w fun e w'=>e = .returned (.int .i64 0)∧Upd (fun k=>k=g) w w'∧Wr w' g (s++qdj x.toNat 8) :=
 qi5 g x 8 8 s w rfl i (by decide) (by decide) f j l
theorem q7h(g:Nat)(x:Int)(s:ByteArray)(w:World)(i:Wr w g s)(f:0≤x)(j:x<4294967296)(l:s.size≤1073741824) :
  Calls Tryz.prog 86 #[.pointer (some ⟨g,0,none⟩),.int .u64 x,.int .i64 4] w fun e w'=>e = .returned (.int .i64 0)∧Upd (fun k=>k=g) w w'∧Wr w' g (s++qdj x.toNat 4) :=
 qi5 g x 4 4 s w rfl i (by decide) (by decide) f j l
theorem q7g(g:Nat)(x:Int)(s:ByteArray)(w:World)(i:Wr w g s)(f:0≤x)(j:x<65536)(l:s.size≤1073741824) :
  Calls Tryz.prog 86 #[.pointer (some ⟨g,0,none⟩),.int .u64 x,.int .i64 2] w fun e w'=>e = .returned (.int .i64 0)∧Upd (fun k=>k=g) w w'∧Wr w' g (s++qdj x.toNat 2) :=
 qi5 g x 2 2 s w rfl i (by decide) (by decide) f j l
theorem q7f(g:Nat)(x:Int)(s:ByteArray)(w:World)(i:Wr w g s)(f:0≤x)(j:x<256)(l:s.size≤1073741824) :
  Calls Tryz.prog 86 #[.pointer (some ⟨g,0,none⟩),.int .u64 x,.int .i64 1] w fun e w'=>e = .returned (.int .i64 0)∧Upd (fun k=>k=g) w w'∧Wr w' g (s++qdj x.toNat 1) :=
 qi5 g x 1 1 s w rfl i (by decide) (by decide) f j l
end Go.Proofs.YtjpmomdechibmaaGreatDoor
namespace Go.Proofs.YtjpmomdechibmaaGreatDoor
open Go.RowKit Go.Sort
def qgq(s:ByteArray)(x:Item):ByteArray:=s++qdj (if x.offered then 1 else 0) 1++qdj x.h.id.toNat 8++qdj x.h.amount.toNat 8++strOfNums x.h.hash.toList++qdj (x.h.expiry%18446744073709551616).toNat 8
def qrx(ch n A B:Int)(m:Nat):ByteArray:=qdj ch.toNat 4++qdj (n%18446744073709551616).toNat 8++qdj A.toNat 8++qdj B.toNat 8++qdj (m%65536) 2
def qjk(ch n A B:Int)(X:List Item):ByteArray:=X.foldl qgq (qrx ch n A B X.length)
theorem qwh(s:ByteArray)(x:Item):(qgq s x).size=s.size+57:=by
 unfold qgq
 simp only[ByteArray.size_append,qgf,strOfNums_size]
 simp
theorem qph(ch n A B:Int)(m:Nat):(qrx ch n A B m).size=30:=by
 unfold qrx
 simp only[ByteArray.size_append,qgf]
theorem qrt(X:List Item):∀s:ByteArray,(X.foldl qgq s).size=s.size+57*X.length:=by
 induction X with
 | nil=>intro s;simp
 | cons x X f=>intro s;rw[List.foldl_cons,f,qwh,List.length_cons];omega
theorem q2v(X:List Item)(s:ByteArray){k:Nat}{x:Item}(h:X[k]? = some x):(X.take (k+1)).foldl qgq s=qgq ((X.take k).foldl qgq s) x:=by
 rw[List.take_add_one,h]
 simp
def qs2:Array Value:=(.bool false :: .int .u64 0 :: .int .u64 0::(List.replicate 32 (.int .u8 0)++[.int .i64 0]):List Value).toArray
theorem q2l(s:ByteArray):(ByteArray.mk #[])++s=s:=by
 apply ByteArray.ext
 simp
theorem qhy(x:Item)(i:Nat)(g:i<36){w:World}{b:Nat}{T:TypeId}{f:Nat × Nat}(h:w.heap[b]? = some (.cells (ze x).toArray T f)):w.cell? ⟨b,i,none⟩=(ze x)[i]? := by
 rw[qg h,List.getElem?_toArray]
theorem qv3(x:Item){w:World}{b:Nat}{T:TypeId}{f:Nat × Nat}(h:w.heap[b]? = some (.cells (ze x).toArray T f)):zr w b 3 32=some (x.h.hash.toList.map (Value.int .u8)).toArray:=by
 rw[qbz h 3 32 (by simp[qb5])]
 congr 1
 apply Array.ext'
 rw[Array.toList_extract]
 unfold ze zi
 simp
theorem q08(x:Item):(ze x)[35]? = some (.int .i64 x.h.expiry):=by
 unfold ze zi
 rw[List.getElem?_cons_succ,List.getElem?_cons_succ,List.getElem?_cons_succ,List.getElem?_append_right (by simp)]
 simp
theorem Tryz.infoHashT:(Tryz.prog.info? 28).map (·.size)=some 32:=by kernel_rfl
def q1a(x:Value):Sem Value:=Instr.loadAt 28 x
theorem qq8(x:Value):Instr.loadAt 28 x=q1a x:=rfl
theorem q6u(b o:Nat)(w:World):(q1a (.pointer (some ⟨b,o,none⟩))).run Tryz.prog w=match zr w b o 32 with | some A=> .ok (.agg A) w | none=>qdk Tryz.prog 28 w b o :=
 zt 28 32 _ Tryz.underlying28 rfl Tryz.infoHashT b o w
attribute [local go_sem ↓ high] qf6 qq8
attribute [local go_sem] qok q6u
set_option maxRecDepth 100000 in
set_option maxHeartbeats 4000000 in
theorem q8k(ch n A B:Int)(u:Value)(X:List Item)(hl:X.length≤1048576)(e4:∀x∈X,HtlcOk x.h)(w:World)(hc:0≤ch∧ch<4294967296)(hn : -9223372036854775808≤n∧n≤9223372036854775807)
  (hA:0≤A∧A<18446744073709551616) (hB:0≤B∧B<18446744073709551616) (hu:qer w u X) :
  Calls Tryz.prog 59 #[.int .u32 ch,.int .i64 n,.agg #[.int .u64 A,.int .u64 B,u]] w (qa5 (.string (qjk ch n A B X)) w):=by
 obtain⟨a,c,rfl⟩:=hu.slice
 go_enter Tryz.func59,Tryz.ntmps59
 go_upto_region 2 with fail
 have t:qx w ((w.alloc (.cells #[.int .u64 A,.int .u64 B,.slice a X.length c] 100)).alloc (.cells #[.string ⟨#[]⟩] 154)):=((Upd.refl _ _).alloc _).alloc _
 have g:((w.alloc (.cells #[.int .u64 A,.int .u64 B,.slice a X.length c] 100)).alloc (.cells #[.string ⟨#[]⟩] 154)).heap[w.heap.size]? = some (.cells #[.int .u64 A,.int .u64 B,.slice a X.length c] 100 (0,0)):=zj (qi _ _) _
 have hg:Wr ((w.alloc (.cells #[.int .u64 A,.int .u64 B,.slice a X.length c] 100)).alloc (.cells #[.string ⟨#[]⟩] 154)) (w.heap.size+1) ⟨#[]⟩:=by
  have:=qi (w.alloc (.cells #[.int .u64 A,.int .u64 B,.slice a X.length c] 100)) (.cells #[.string ⟨#[]⟩] 154)
  rwa [World.size_alloc] at this
 generalize (w.alloc (.cells #[.int .u64 A,.int .u64 B,.slice a X.length c] 100)).alloc (.cells #[.string ⟨#[]⟩] 154)=w1 at t g hg ⊢
 have HA:=qb hA
 have HB:=qb hB
 obtain⟨M,a4⟩:∃M:Int,M=n%18446744073709551616:=⟨_,rfl⟩
 have R:=qb (show 0≤M∧M<18446744073709551616 by omega)
 have e7:IntKind.u64.wrap n=M:=by rw[IntKind.wrap_u64,a4]
 have F:qrx ch n A B X.length=qdj ch.toNat 4++qdj M.toNat 8++qdj A.toNat 8++qdj B.toNat 8++qdj (X.length%65536) 2:=by rw[a4];rfl
 have f:=qb F
 obtain⟨b7,b8⟩:=hc
 have s4:=fun x=>qgf x 4
 have s8:=fun x=>qgf x 8
 have a9:=qb s4
 have y:=qb s8
 clear a4 F hA hB hn s4 s8
 have d9:w.heap.size+1<w1.heap.size:=hg.lt
 have f6:(X.length:Int)≤1048576:=by omega
 obtain⟨G,hG⟩:∃G,G=w.heap.size+1:=⟨_,rfl⟩
 rw[←hG] at hg d9 ⊢
 have f4:w.heap.size<G:=by omega
 clear hG
 go_wp2_with fail
 refine(q7h G ch ⟨#[]⟩ w1 hg b7 b8 (by decide)).mono ?_
 rintro e w2 ⟨rfl,u2,g2⟩
 rw[q2l] at g2
 replace g:=u2.old g (by omega)
 replace t:=t.then u2 (fun q L h=>by omega)
 clear hg u2 b7 b8
 have z2:(qdj ch.toNat 4).size=4:=qa a9 _
 generalize qdj ch.toNat 4=t4 at g2 z2 f
 have C:=qg g 0
 have D:=qg g 1
 have o:=qg g 2
 simp at C D o
 go_wp2_with fail
 refine(qh5 G M t4 w2 g2 (qa R).1 (qa R).2 (by omega)).mono ?_
 rintro e w3 ⟨rfl,u3,g3⟩
 replace g:=u3.old g (by omega)
 replace t:=t.then u3 (fun q L h=>by omega)
 clear C D o g2 u3
 have z3:(t4++qdj M.toNat 8).size=12:=by rw[ByteArray.size_append,z2,qa y]
 generalize t4++qdj M.toNat 8=t5 at g3 z3 f
 have C:=qg g 0
 have D:=qg g 1
 have o:=qg g 2
 simp at C D o
 go_wp2_with fail
 refine(qh5 G A t5 w3 g3 (qa HA).1 (qa HA).2 (by omega)).mono ?_
 rintro e w4 ⟨rfl,u4,g4⟩
 replace g:=u4.old g (by omega)
 replace t:=t.then u4 (fun q L h=>by omega)
 clear C D o g3 u4
 have z4:(t5++qdj A.toNat 8).size=20:=by rw[ByteArray.size_append,z3,qa y]
 generalize t5++qdj A.toNat 8=t6 at g4 z4 f
 have C:=qg g 0
 have D:=qg g 1
 have o:=qg g 2
 simp at C D o
 go_wp2_with fail
 refine(qh5 G B t6 w4 g4 (qa HB).1 (qa HB).2 (by omega)).mono ?_
 rintro e w5 ⟨rfl,u5,g5⟩
 replace g:=u5.old g (by omega)
 replace t:=t.then u5 (fun q L h=>by omega)
 clear C D o g4 u5
 have z5:(t6++qdj B.toNat 8).size=28:=by rw[ByteArray.size_append,z4,qa y]
 generalize t6++qdj B.toNat 8=t7 at g5 z5 f
 have C:=qg g 0
 have D:=qg g 1
 have o:=qg g 2
 simp at C D o
 go_wp2_with fail
 refine(q7g G _ t7 w5 g5 (by omega) (by omega) (by omega)).mono ?_
 rintro e w6 ⟨rfl,u6,g6⟩
 replace g:=u6.old g (by omega)
 replace t:=t.then u6 (fun q L h=>by omega)
 clear C D o g5 u6
 have d0:((X.length:Int)%65536).toNat=X.length%65536:=by omega
 rw[d0,←qa f] at g6
 have zh:=qph ch n A B X.length
 have a6:qjk ch n A B X=X.foldl qgq (qrx ch n A B X.length):=rfl
 generalize qrx ch n A B X.length=hd at g6 zh a6
 have b3:=qb a6
 clear d0 a6 z2 z3 z4 z5 f a9 e7 R HA HB
 have o:=qg g 2
 simp at o
 go_wp2_with fail
 clear o
 obtain⟨wo,rfl⟩:∃wo:World,wo=w6:=⟨_,rfl⟩
 have HU:=qb hu
 clear hu
 go_loopw [9,38] (fun _ iv wr=>∃k:Nat,iv = .int .i64 (k:Int)∧k≤X.length∧Wr wr G ((X.take k).foldl qgq hd)∧qx w wr) (fun _ iv _=>X.length-(intOf iv).toNat)
 case atStart=>exact⟨0,rfl,Nat.zero_le _,g6,t⟩
 case round =>
  clear g6 t
  obtain⟨k,rfl,hk,gk,l⟩:=hrel
  obtain⟨j,rfl⟩:∃j:World,j=wr:=⟨_,rfl⟩
  by_cases e3:k<X.length
  ·obtain⟨x,hx⟩:∃x,X[k]? = some x:=⟨_,List.getElem?_eq_getElem e3⟩
   obtain⟨b,off,rfl,-,c6⟩:=((qa HU).new l).at hx
   have P:=e4 x (List.mem_of_getElem? hx)
   have m:=q2v X hd hx
   have a5:=qrt (X.take k) hd
   rw[zh,List.length_take,Nat.min_eq_left hk] at a5
   have f5:(k:Int)<(X.length:Int):=by omega
   have d6:=gk.lt
   generalize (X.take k).foldl qgq hd=s0 at gk m a5
   have HF:=qb m
   have H:=qb P
   clear hx m P
   go_upto_region 9 with fail
   refine wp_region_lit ?_
   refine q9 rfl (v:= .pointer (some ⟨b,off+k*36,none⟩)) (w':=j) (by simp only[execOp];go_simp) ?_
   refine q9 rfl (v:= .agg (ze x).toArray) (w':=j) (by simp only[execOp];go_simp) ?_
   refine q9 rfl (v:= .pointer (some ⟨j.heap.size,0,none⟩)) (w':=j.alloc (.cells qs2 129)) (by kernel_rfl) ?_
   have n1:qx j (j.alloc (.cells qs2 129)):=(Upd.refl _ _).alloc _
   have K:(j.alloc (.cells qs2 129)).heap[j.heap.size]? = some (.cells qs2 129 (0,0)):=qi _ _
   generalize j.alloc (.cells qs2 129)=a7 at n1 K ⊢
   refine wpList_store_row rfl _ _ _ rfl j.heap.size (ze x).toArray (by kernel_rfl) (by kernel_rfl) 129 _ K (by rw[List.size_toArray,qb5];exact Tryz.infoItem) (by have h9:qs2.size=36:=rfl;rw[h9];simp[qb5]) (by rw[List.all_toArray,List.all_eq_true];exact qpq x) ?_
   have i:=setRow_heap a7 j.heap.size _ (ze x).toArray 129 (0,0) K
   have n2:qx j (a7.setRow j.heap.size (ze x).toArray):=n1.setRow (fun h=>by omega) _
   generalize a7.setRow j.heap.size (ze x).toArray=e8 at i n2 ⊢
   replace gk:=gk.new n2
   replace l:=l.trans n2
   have d7:G<j.heap.size:=d6
   have d8:w.heap.size≤j.heap.size:=by omega
   generalize j.heap.size=I at i d7 d8 ⊢
   clear n1 K n2 c6
   have c7:=qaj i 36 (by simp[qb5])
   have b9:(ze x)[0]? = some (.bool x.offered):=rfl
   have c5:=qp8 x.offered (ze x).toArray e8 (by rw[List.getElem?_toArray];exact b9)
   have e5:(1-qe5 x.offered).toNat=(if x.offered then 1 else 0)∧0≤1-qe5 x.offered∧1-qe5 x.offered≤1∧0≤qe5 x.offered∧qe5 x.offered≤1:=by cases x.offered<;>decide
   obtain⟨O,c4,f0,f1,f2⟩:=e5
   have d4:=qb O
   have T:=qb c5
   clear b9 c5 O
   generalize b6:(ze x).toArray=IC at c7 T
   have f3:=qb b6
   clear b6
   go_wp2_with fail
   refine(qa T).mono ?_
   rintro e e9 ⟨rfl,n3⟩
   have m3:=_root_.Go.Proofs.YtjpmomdechibmaaGreatDoor.G.new n3
   replace i:=m3.old i (fun h=>h)
   replace gk:=gk.new m3
   replace l:=l.trans m3
   clear m3 n3 c7 T
   go_wp2_with fail
   refine(q7f G (1-qe5 x.offered) s0 e9 gk c4 (by omega) (by omega)).mono ?_
   rintro e w4 ⟨rfl,u4,J⟩
   replace i:=u4.old i (by omega)
   replace l:=l.then u4 (fun q L h=>by omega)
   clear u4
   rw[qa d4] at J
   have y4:(s0++qdj (if x.offered then 1 else 0) 1).size=31+57*k:=by rw[ByteArray.size_append,a5,qgf];omega
   generalize c0:s0++qdj (if x.offered then 1 else 0) 1=p4 at J y4
   have d1:=qhy x 1 (by decide) i
   have d2:=qhy x 2 (by decide) i
   have z:=qhy x 35 (by decide) i
   rw[q08] at z
   have dh:=qv3 x i
   replace d1:w4.cell? ⟨I,1,none⟩=some (.int .u64 x.h.id):=d1
   clear d2 z dh gk
   go_wp2_with fail
   refine(qh5 G x.h.id p4 w4 J (qa H).id.1 (by have:=(qa H).id.2;omega) (by omega)).mono ?_
   rintro e w5 ⟨rfl,u5,V⟩
   replace i:=u5.old i (by omega)
   replace l:=l.then u5 (fun q L h=>by omega)
   clear u5
   have y5:(p4++qdj x.h.id.toNat 8).size=39+57*k:=by rw[ByteArray.size_append,y4,qa y];omega
   generalize c1:p4++qdj x.h.id.toNat 8=p5 at V y5
   have d2:w5.cell? ⟨I,2,none⟩=some (.int .u64 x.h.amount):=qhy x 2 (by decide) i
   clear d1 J
   go_wp2_with fail
   refine(qh5 G x.h.amount p5 w5 V (qa H).amount.1 (by have:=(qa H).amount.2;omega) (by omega)).mono ?_
   rintro e w6 ⟨rfl,u6,W⟩
   replace i:=u6.old i (by omega)
   replace l:=l.then u6 (fun q L h=>by omega)
   clear u6
   have y6:(p5++qdj x.h.amount.toNat 8).size=47+57*k:=by rw[ByteArray.size_append,y5,qa y];omega
   generalize c2:p5++qdj x.h.amount.toNat 8=p6 at W y6
   have dh:=qv3 x i
   generalize b5:(x.h.hash.toList.map (Value.int .u8)).toArray=HC at dh
   have E:=qb (q6b G x.h.hash.toList p6 w6 W (by simp) (by omega))
   rw[b5] at E
   clear d2 V b5 W
   go_wp2_with fail
   refine(qa E).mono ?_
   rintro e w7 ⟨rfl,u7,Y⟩
   replace i:=u7.old i (by omega)
   replace l:=l.then u7 (fun q L h=>by omega)
   clear u7 E dh
   have y7:(p6++strOfNums x.h.hash.toList).size=79+57*k:=by rw[ByteArray.size_append,y6,strOfNums_size];simp;omega
   generalize c3:p6++strOfNums x.h.hash.toList=p7 at Y y7
   have z:=qhy x 35 (by decide) i
   rw[q08] at z
   obtain⟨U,Z⟩:∃U:Int,U=x.h.expiry%18446744073709551616:=⟨_,rfl⟩
   have a8:=qb (show 0≤U∧U<18446744073709551616 by omega)
   have e6:IntKind.u64.wrap x.h.expiry=U:=by rw[IntKind.wrap_u64,Z]
   have d3:=qb Z
   clear Z
   go_wp2_with fail
   refine(qh5 G U p7 w7 Y (qa a8).1 (qa a8).2 (by omega)).mono ?_
   rintro e w8 ⟨rfl,u8,b4⟩
   replace i:=u8.old i (by omega)
   replace l:=l.then u8 (fun q L h=>by omega)
   clear u8
   have c8:p7++qdj U.toNat 8=(X.take (k+1)).foldl qgq hd:=by
    rw[qa HF,←c3,←c2,←c1,←c0,qa d3]
    rfl
   rw[c8] at b4
   clear z e6 c0 c1 c2 c3 c8 Y
   go_wp2
   go_roundw
   case rel=>exact⟨k+1,by go_num,by omega,b4,l⟩
   case measure=>simp[intOf];omega
  ·obtain rfl:k=X.length:=by omega
   rw[List.take_length,←qa b3] at gk
   generalize c9:qjk ch n A B X=tt at gk b3
   have d5:=qb c9
   clear c9
   go_wp2_with fail
   refine(qym G tt j gk).mono ?_
   rintro e w9 ⟨rfl,rfl⟩
   go_wp2
   go_ret
   exact⟨by rw[qa d5];rfl,l⟩
end Go.Proofs.YtjpmomdechibmaaGreatDoor
