/-
  wire.May.
-/
import Derived.Test.YtjpmomdechibmaaGreatDoorFld3
import Derived.Test.YtjpmomdechibmaaGreatDoorMbh
import Derived.Maps.OwnSet
import Derived.Test.YtjpmomdechibmaaGreatDoorMba
import Derived.Test.YtjpmomdechibmaaGreatDoorMbi
import Derived.Test.YtjpmomdechibmaaGreatDoorMbf
import Derived.Test.YtjpmomdechibmaaGreatDoorTxt
set_option linter.unusedVariables false
set_option linter.unusedSimpArgs false
namespace Go.Proofs.YtjpmomdechibmaaGreatDoor
open Go.RowKit
def qhv(xs:List Fld)(m:MsgV):MsgV:=xs.foldl (fun m x=>x.zero m) m
theorem zero_len(x:Fld)(m:MsgV)(h:m.hash.length=32):(x.zero m).hash.length=32:=by cases x<;>first | exact h | exact qo
theorem q17{xs:List Fld}{i:Nat}{x:Fld}(h:xs[i]? = some x)(m:MsgV):qhv (xs.take (i+1)) m=x.zero (qhv (xs.take i) m):=by
 unfold qhv
 rw[List.take_add_one,h,List.foldl_append]
 rfl
set_option maxRecDepth 100000 in
set_option maxHeartbeats 1000000 in
theorem qy5(base A:Nat)(v:Value)(xs:List Fld)(m:MsgV)(w:World)(hv:FldsO base w v xs)(V:MsB w A m)(W:A<base)(b4:xs.length≤100) :
  Calls Tryz.prog 65 #[qio,v,.pointer (some ⟨A,0,none⟩)] w fun e w'=>e = .returned (.tuple #[])∧MsB w' A (qhv xs m)∧Upd (· = A) w w':=by
 obtain⟨vs,o,a9,I⟩:=hv
 obtain⟨va,a6,L⟩:=qx o
 have l:∀(i:Nat) (u:Value),vs[i]? = some u→∃g,va=some ⟨g,0,none⟩∧base≤g∧w.cell? ⟨g,i,none⟩=some u:=by
  intro i u C
  have K:=(List.getElem?_eq_some_iff.1 C).1
  rcases o.2 with ⟨e,e0⟩ | ⟨g,cap,U,e,z,hg,_,_,hs,ht⟩
  ·omega
  ·rw[L] at e
   injection e with e1
   refine⟨g,e1,z,?_⟩
   rw[qh hg]
   have:U.toList[i]? = some u:=by
    rw[←C,←ht,List.getElem?_take_of_lt (by omega)]
   rwa [Array.getElem?_toList] at this
 subst L
 clear o
 have t:=qb l
 have P:=qb I
 clear l I
 unfold qio
 go_enter Tryz.func65,Tryz.ntmps65
 go_upto_region 1 with fail
 have N:qy w (w.alloc (.cells #[.pointer none,.pointer none] 138)):=(Upd.refl _ _).alloc _
 have z:=qi w (.cells #[.pointer none,.pointer none] 138)
 have X:=V.lt
 generalize w.alloc (.cells #[.pointer none,.pointer none] 138)=w1 at N z ⊢
 have E:A≠w.heap.size:=by omega
 generalize w.heap.size=B at z E ⊢
 have HB:=qb z
 have O:=qb (V.new N)
 have T:=qb N
 have b3:(xs.length:Int)≤100:=by omega
 clear z V N X
 go_wp2_with fail
 go_loopw [7,10] (fun _ iv wr=>∃i:Nat,iv = .int .i64 (i:Int)∧i≤xs.length∧Hid (MsB wr A (qhv (xs.take i) m))∧Upd (· = A) w1 wr) (fun _ iv _=>xs.length-(intOf iv).toNat)
 case atStart=>exact⟨0,rfl,Nat.zero_le _,O,Upd.refl _ _⟩
 case round =>
  obtain⟨i,rfl,hi,Y,D⟩:=hrel
  obtain⟨y,rfl⟩:∃y:World,y=wr:=⟨_,rfl⟩
  by_cases K:i<xs.length
  ·obtain⟨x,hx⟩:∃x,xs[i]? = some x:=⟨_,List.getElem?_eq_getElem K⟩
   obtain⟨u,C⟩:∃u,vs[i]? = some u:=⟨_,List.getElem?_eq_getElem (by omega)⟩
   obtain⟨g,rfl,a7,hc⟩:=qa t i u C
   have hf:=qa P i x u hx C
   have J:qj6 base y u x:=(hf.new (qa T)).upd D (fun k hk e=>by omega)
   have Z:y.cell? ⟨g,i,none⟩=some u:=D.cell ((qa T).cell hc (fun h=>h)) (by show ¬g=A;omega)
   have q:=D.old (qa HB) (fun e=>E e.symm)
   have rP:=qaq q 2 rfl
   have d0:y.cell? ⟨B,0,none⟩=some (.pointer none):=qh q 0
   have d1:y.cell? ⟨B,1,none⟩=some (.pointer none):=qh q 1
   obtain⟨F,a5,rfl,hE,f⟩:=q4c x base A _ u y J (qa Y) W
   have M:=q17 hx m
   have HZ:=qb M
   have a8:(i:Int)<(xs.length:Int):=by omega
   unfold qio at f
   clear hf J hc q M hx C
   go_wp2_with fail
   refine f.mono ?_
   rintro e w3 ⟨rfl,H,u3⟩
   have a4:=D.trans u3
   have R:=qb H
   clear f rP d0 d1 Z hE H u3 D
   go_wp2_with fail
   go_roundw
   case rel=>exact⟨i+1,by go_num,by omega,by rw[qa HZ];exact R,a4⟩
   case measure=>simp[intOf];omega
  ·obtain rfl:i=xs.length:=by omega
   rw[List.take_length] at Y
   go_wp2_with fail
   go_end0
   exact⟨rfl,qa Y,((qa T).mono (fun _ _ h=>h.elim)).trans D⟩
theorem Tryz.flatMsg:qcv Tryz.prog 5 30=some (.int .i64 :: .int .u32 :: .int .u64 :: .int .u64::(List.replicate 32 (.int .u8)++[.int .i64,.int .i64])):=by kernel_rfl
theorem Tryz.eqMsg:eqB Tryz.prog 5 30=true:=by kernel_rfl
theorem Tryz.aggMsg:qhx Tryz.prog 30=true:=by kernel_rfl
theorem wfI{n:Int}(h : -9223372036854775808≤n∧n≤9223372036854775807):(Lit.int .i64 n).wf=true:=by
 simp[Lit.wf,IntKind.min,IntKind.max,IntKind.signed,IntKind.bits];omega
theorem wfU{n:Int}(h:0≤n∧n<18446744073709551616):(Lit.int .u64 n).wf=true:=by
 simp[Lit.wf,IntKind.min,IntKind.max,IntKind.signed,IntKind.bits];omega
theorem wfW{n:Int}(h:0≤n∧n<4294967296):(Lit.int .u32 n).wf=true:=by
 simp[Lit.wf,IntKind.min,IntKind.max,IntKind.signed,IntKind.bits];omega
theorem qx2{m:MsgV}(h:MsgOk m):qdh (.int .i64 :: .int .u32 :: .int .u64 :: .int .u64::(List.replicate 32 (.int .u8)++[.int .i64,.int .i64])) m.cells :=
 ⟨_,_,rfl,⟨_,rfl,wfI h.kind⟩,_,_,rfl,⟨_,rfl,wfW h.ch⟩,_,_,rfl,⟨_,rfl,wfU h.id⟩,_,_,rfl,⟨_,rfl,wfU h.amount⟩,qdh.app (qkj h.len h.hash) ⟨_,_,rfl,⟨_,rfl,wfI h.expiry⟩,_,_,rfl,⟨_,rfl,wfI h.number⟩,rfl⟩⟩
def eqMsg(x y:Value):Sem Value:=binOp .eql 30 x y
theorem qwx(x y:Value):binOp .eql 30 x y=eqMsg x y:=rfl
theorem q3u{a b:MsgV}(t:a.hash.length=32)(v:b.hash.length=32)(h:a.cells=b.cells):a=b:=by
 obtain⟨a1,a2,a3,w,i,x,y⟩:=a
 obtain⟨b1,b2,z,C,l,D,E⟩:=b
 unfold MsgV.cells at h
 simp only[List.cons.injEq,Value.int.injEq,true_and] at h
 obtain⟨rfl,rfl,rfl,rfl,h⟩:=h
 have f:i.length=32:=t
 have g:l.length=32:=v
 have:=List.append_inj h (by simp[f,g])
 obtain⟨o,m⟩:=this
 have q:i=l:=qki o
 simp only[List.cons.injEq,Value.int.injEq,true_and,and_true] at m
 obtain⟨rfl,rfl⟩:=m
 rw[q]
instance:DecidableEq MsgV:=fun a b =>
 decidable_of_iff (a.kind=b.kind∧a.ch=b.ch∧a.id=b.id∧a.amount=b.amount∧a.hash=b.hash∧a.expiry=b.expiry∧a.number=b.number)
  ⟨by rintro ⟨h1,h2,h3,h4,h5,h6,h7⟩;cases a;cases b;simp_all,by rintro rfl;exact⟨rfl,rfl,rfl,rfl,rfl,rfl,rfl⟩⟩
theorem zd4{a b:MsgV}(f:MsgOk a)(g:MsgOk b)(w:World):(eqMsg (.agg a.cells.toArray) (.agg b.cells.toArray)).run Tryz.prog w = .ok (.bool (decide (a=b))) w:=by
 refine qjt 5 (by decide) Tryz.eqMsg Tryz.flatMsg Tryz.aggMsg (qx2 f) (qx2 g) (decide (a=b)) ?_ w
 constructor
 ·intro e
  rw[of_decide_eq_true e]
 ·intro e
  exact decide_eq_true (q3u f.len g.len e)
theorem zcm{m:MsgV}(h:MsgOk m)(x:Fld):MsgOk (x.zero m):=by
 have z:∀b∈qad,0≤b∧b≤255:=qde
 cases x
 ·exact⟨h.kind,show (0:Int)≤0∧(0:Int)<4294967296 by decide,h.id,h.amount,h.len,h.hash,h.expiry,h.number⟩
 ·exact⟨h.kind,h.ch,show (0:Int)≤0∧(0:Int)<18446744073709551616 by decide,h.amount,h.len,h.hash,h.expiry,h.number⟩
 ·exact⟨h.kind,h.ch,h.id,show (0:Int)≤0∧(0:Int)<18446744073709551616 by decide,h.len,h.hash,h.expiry,h.number⟩
 ·exact⟨h.kind,h.ch,h.id,h.amount,qo,z,h.expiry,h.number⟩
 ·exact⟨h.kind,h.ch,h.id,h.amount,h.len,h.hash,show (-9223372036854775808:Int)≤0∧(0:Int)≤9223372036854775807 by decide,h.number⟩
 ·exact⟨h.kind,h.ch,h.id,h.amount,h.len,h.hash,h.expiry,show (-9223372036854775808:Int)≤0∧(0:Int)≤9223372036854775807 by decide⟩
theorem zan(xs:List Fld):∀ {m:MsgV},MsgOk m→MsgOk (qhv xs m):=by
 induction xs with
 | nil=>intro m h;exact h
 | cons x xs f=>intro m h;exact f (zcm h x)
def qgi(k:Int):MsgV:=⟨k,0,0,0,qad,0,0⟩
theorem q0n{k:Int}(h : -9223372036854775808≤k∧k≤9223372036854775807):MsgOk (qgi k) :=
 ⟨h,show (0:Int)≤0∧(0:Int)<4294967296 by decide,show (0:Int)≤0∧(0:Int)<18446744073709551616 by decide,show (0:Int)≤0∧(0:Int)<18446744073709551616 by decide,qo,qde,show (-9223372036854775808:Int)≤0∧(0:Int)≤9223372036854775807 by decide,show (-9223372036854775808:Int)≤0∧(0:Int)≤9223372036854775807 by decide⟩
theorem q16(xs:List Fld):∀m:MsgV,(qhv xs m).kind=m.kind:=by
 induction xs with
 | nil=>intro m;rfl
 | cons x xs f=>intro m;exact(f _).trans (by cases x<;>rfl)
def qam(m:MsgV):Bool :=
 match fieldsOf m.kind with
 | none=>false
 | some xs=>if m.expiry<0∨1073741824<m.expiry∨m.number<0∨65535<m.number∨1125899906842624<m.amount then false else decide (qhv xs m=qgi m.kind)
theorem q8t{m:MsgV}(h:fieldsOf m.kind=none):qam m=false:=by unfold qam;rw[h]
theorem q8w{m:MsgV}{xs:List Fld}(h:fieldsOf m.kind=some xs):qam m=if m.expiry<0∨1073741824<m.expiry∨m.number<0∨65535<m.number∨1125899906842624<m.amount then false else decide (qhv xs m=qgi m.kind):=by unfold qam;rw[h]
theorem quy{k:Int}{xs:List Fld}(h:fieldsOf k=some xs):xs.length≤100:=by
 unfold fieldsOf at h
 repeat' (split at h)
 all_goals first
  | (injection h with h;subst h;decide)
  | cases h
attribute [local go_sem ↓ high] qab qac qag qah qwx
attribute [local go_sem] qcy qc0 qc2 zq
theorem qwg(k:Int)(w:World):(qkd #[(0,.int .i64 k)]).run Tryz.prog w = .ok (.agg (qgi k).cells.toArray) w:=run_build w _ _ _ (by kernel_rfl)
set_option maxRecDepth 100000 in
set_option maxHeartbeats 1000000 in
theorem qq2(m:MsgV)(E:MsgOk m)(w:World):Calls Tryz.prog 44 #[.agg m.cells.toArray] w (qa7 (.bool (qam m)) w):=by
 go_enter Tryz.func44,Tryz.ntmps44
 go_upto_region 1 with fail
 have y:=qch w m E.len
 have H:qy w (w.alloc (.cells m.cells.toArray 30)):=(Upd.refl _ _).alloc _
 generalize w.alloc (.cells m.cells.toArray 30)=w1 at H y ⊢
 obtain⟨A,z⟩:∃A,A=w.heap.size:=⟨_,rfl⟩
 rw[←z] at y ⊢
 have a4:w.heap.size≤A:=by omega
 clear z
 obtain⟨R,-,-,-,-,-,-⟩:=y.cells
 have P:=qb y
 clear y
 cases t:fieldsOf m.kind with
 | none =>
  have l:=qb (q8t t)
  have C:=qw6 m.kind t w1
  clear t E
  go_wp2_with fail
  refine C.mono ?_
  rintro e U ⟨rfl,F⟩
  have g:=H.trans F
  clear C R
  go_wp2_with fail
  go_ret
  exact⟨by rw[qa l];rfl,g⟩
 | some xs =>
  have l:=qb (q8w t)
  have L:=quy t
  have C:=qz3 m.kind xs t w1
  have J:=E.kind
  have V:=qb E
  clear t E
  go_wp2_with fail
  refine C.mono ?_
  rintro e U ⟨v,rfl,F,D⟩
  have f:=(qa P).new F
  obtain⟨-,-,-,m3,M,N,-⟩:=f.cells
  have g:=H.trans F
  have I:=qb D
  have o:=(qa P).lt
  clear C R D H F
  by_cases X:m.expiry<0
  ·rw[if_pos (.inl X)] at l
   clear f
   go_wp2_with fail
   go_ret
   exact⟨by rw[qa l];rfl,g⟩
  by_cases Y:1073741824<m.expiry
  ·rw[if_pos (.inr (.inl Y))] at l
   clear f
   go_wp2_with fail
   go_ret
   exact⟨by rw[qa l];rfl,g⟩
  by_cases Z:m.number<0
  ·rw[if_pos (.inr (.inr (.inl Z)))] at l
   clear f
   go_wp2_with fail
   go_ret
   exact⟨by rw[qa l];rfl,g⟩
  by_cases e4:65535<m.number
  ·rw[if_pos (.inr (.inr (.inr (.inl e4))))] at l
   clear f
   go_wp2_with fail
   go_ret
   exact⟨by rw[qa l];rfl,g⟩
  by_cases e5:1125899906842624<m.amount
  ·rw[if_pos (.inr (.inr (.inr (.inr e5))))] at l
   clear f
   go_wp2_with fail
   go_ret
   exact⟨by rw[qa l];rfl,g⟩
  rw[if_neg (by omega)] at l
  have x:=qy5 w1.heap.size A v xs m U (qa I) f o L
  unfold qio at x
  clear f
  go_wp2_with fail
  refine x.mono ?_
  rintro e w3 ⟨rfl,q,T⟩
  have O:qy w w3:=g.then T (fun i hi e=>by omega)
  have hz:=q16 xs m
  have K:=zan xs (qa V)
  obtain⟨z0,-,-,-,-,-,-⟩:=q.cells
  rw[hz] at z0
  have rM:=q.row
  have a5:=fun W=>qwg m.kind W
  have a6:=fun W=>zd4 K (q0n J) W
  clear x T m3 M N q
  go_wp2_with fail
  go_ret
  exact⟨by rw[qa l];rfl,O⟩
end Go.Proofs.YtjpmomdechibmaaGreatDoor
namespace Go.Proofs.YtjpmomdechibmaaGreatDoor
open Go.RowKit
def fnR(v:Value):Option (DataW Unit × List MemPlace) :=
 match v with
 | .func (.func F) a b=>if a.size=0∧b.size=0 then some (.lit (.int .i64 F),[]) else none
 | .nilFunc=>some (.lit (.int .i64 (-1)),[])
 | _=>none
theorem za8{v:Value}{F:Nat}{ps:List MemPlace}(h:fnR v=some (.lit (.int .i64 F),ps)):v = .func (.func F) #[] #[]:=by
 unfold fnR at h
 split at h
 ·split at h
  ·rename_i f
   simp only[Option.some.injEq,Prod.mk.injEq,DataW.lit.injEq,Lit.int.injEq,true_and] at h
   have e:_=F:=Int.ofNat.inj h.1
   rw[Array.eq_empty_of_size_eq_zero f.1,Array.eq_empty_of_size_eq_zero f.2,e]
  ·cases h
 ·simp only[Option.some.injEq,Prod.mk.injEq,DataW.lit.injEq,Lit.int.injEq,true_and] at h
  omega
 ·cases h
def q73:DataW Unit:=((((((((DataW.map []).put (.int .i64 3) (.lit (.int .i64 66))).put (.int .i64 4) (.lit (.int .i64 67))).put (.int .i64 5) (.lit (.int .i64 68))).put (.int .i64 6) (.lit (.int .i64 69))).put (.int .i64 7) (.lit (.int .i64 70))).put (.int .i64 8) (.lit (.int .i64 71))).put (.int .i64 9) (.lit (.int .i64 72)))
def qjz(w:World)(b:Nat):Prop:=w.ownsMap Tryz.prog 3 fnR b 7 q73
set_option maxRecDepth 100000 in
set_option maxHeartbeats 1000000 in
theorem qxk(w:World):Calls Tryz.prog 45 #[] w fun e w'=>∃b,e = .returned (.map (some b))∧qy w w'∧qjz w' b:=by
 have K:=Maps.int_keyed Tryz.underlying3
 have y:=World.ownsMap_made w Tryz.prog 3 fnR
 have J:qy w (w.alloc (.map #[] 0)):=(Upd.refl _ _).alloc _
 have key:∀k:Int,(Lit.int .i64 k).wf=true→keyOf Tryz.prog 3 (.int .i64 k)=some (.int .i64 k):=fun k i=>Maps.keyOf_int_mk Tryz.underlying3 i
 have O:=@run_makeMap Tryz.prog
 obtain⟨w1,R,z,l⟩:=y.update K Tryz.underlying107 (by decide) (key 3 (by decide)) (val:= .func (.func 66) #[] #[]) (d:= .lit (.int .i64 66)) (ps:=[]) rfl
 obtain⟨Z,T,C,m⟩:=z.update K Tryz.underlying107 (by decide) (key 4 (by decide)) (val:= .func (.func 67) #[] #[]) (d:= .lit (.int .i64 67)) (ps:=[]) rfl
 obtain⟨w3,U,D,o⟩:=C.update K Tryz.underlying107 (by decide) (key 5 (by decide)) (val:= .func (.func 68) #[] #[]) (d:= .lit (.int .i64 68)) (ps:=[]) rfl
 obtain⟨w4,V,E,q⟩:=D.update K Tryz.underlying107 (by decide) (key 6 (by decide)) (val:= .func (.func 69) #[] #[]) (d:= .lit (.int .i64 69)) (ps:=[]) rfl
 obtain⟨w5,W,F,t⟩:=E.update K Tryz.underlying107 (by decide) (key 7 (by decide)) (val:= .func (.func 70) #[] #[]) (d:= .lit (.int .i64 70)) (ps:=[]) rfl
 obtain⟨w6,X,H,v⟩:=F.update K Tryz.underlying107 (by decide) (key 8 (by decide)) (val:= .func (.func 71) #[] #[]) (d:= .lit (.int .i64 71)) (ps:=[]) rfl
 obtain⟨L,Y,I,x⟩:=H.update K Tryz.underlying107 (by decide) (key 9 (by decide)) (val:= .func (.func 72) #[] #[]) (d:= .lit (.int .i64 72)) (ps:=[]) rfl
 have P:qy w L:=by
  have f:∀ {a b:World},a.grownBy b (some w.heap.size)→qy w a→qy w b:=fun g n=>n.grown g (fun k i N=>by injection i with i;omega)
  exact f x (f v (f t (f q (f o (f m (f l J))))))
 have M:qjz L w.heap.size:=I
 clear key K y z C D E F H I l m o q t v x J
 go_enter Tryz.func45,Tryz.ntmps45
 go_wp2_with fail
 go_ret
 exact⟨_,rfl,P,M⟩
theorem qfr{w:World}{b:Nat}(h:qjz w b)(k:Int)(F:Nat)(l:(Lit.int .i64 k).wf=true)(i:Maps.has q73 (.int .i64 k)=true)(g:q73.atKey (.int .i64 k) (.lit (.int .i64 (-1))) = .lit (.int .i64 F)) :
  (Instr.lookup 107 (.map (some b)) (.int .i64 k) true).run Tryz.prog w = .ok (.tuple #[.func (.func F) #[] #[],.bool true]) w:=by
 obtain⟨v,ps,m,f⟩:=h.look_ok (Maps.int_keyed Tryz.underlying3) Tryz.underlying107 (z:= .nilFunc) (zd:= .lit (.int .i64 (-1))) (zp:=[]) (by kernel_rfl) rfl (Maps.keyOf_int_mk Tryz.underlying3 l)
 rw[g] at f
 rw[m,za8 f,i]
theorem zee{w:World}{b:Nat}(h:qjz w b):(Instr.lookup 107 (.map (some b)) (.int .i64 3) true).run Tryz.prog w = .ok (.tuple #[.func (.func 66) #[] #[],.bool true]) w:=qfr h 3 _ (by decide) (by decide +kernel) rfl
theorem zef{w:World}{b:Nat}(h:qjz w b):(Instr.lookup 107 (.map (some b)) (.int .i64 4) true).run Tryz.prog w = .ok (.tuple #[.func (.func 67) #[] #[],.bool true]) w:=qfr h 4 _ (by decide) (by decide +kernel) rfl
theorem zeg{w:World}{b:Nat}(h:qjz w b):(Instr.lookup 107 (.map (some b)) (.int .i64 5) true).run Tryz.prog w = .ok (.tuple #[.func (.func 68) #[] #[],.bool true]) w:=qfr h 5 _ (by decide) (by decide +kernel) rfl
theorem zeh{w:World}{b:Nat}(h:qjz w b):(Instr.lookup 107 (.map (some b)) (.int .i64 6) true).run Tryz.prog w = .ok (.tuple #[.func (.func 69) #[] #[],.bool true]) w:=qfr h 6 _ (by decide) (by decide +kernel) rfl
theorem zei{w:World}{b:Nat}(h:qjz w b):(Instr.lookup 107 (.map (some b)) (.int .i64 7) true).run Tryz.prog w = .ok (.tuple #[.func (.func 70) #[] #[],.bool true]) w:=qfr h 7 _ (by decide) (by decide +kernel) rfl
theorem zej{w:World}{b:Nat}(h:qjz w b):(Instr.lookup 107 (.map (some b)) (.int .i64 8) true).run Tryz.prog w = .ok (.tuple #[.func (.func 71) #[] #[],.bool true]) w:=qfr h 8 _ (by decide) (by decide +kernel) rfl
theorem zek{w:World}{b:Nat}(h:qjz w b):(Instr.lookup 107 (.map (some b)) (.int .i64 9) true).run Tryz.prog w = .ok (.tuple #[.func (.func 72) #[] #[],.bool true]) w:=qfr h 9 _ (by decide) (by decide +kernel) rfl
structure Tb(w:World):Prop where
 glob:Glob w
 spans:Spans w
 tabs:Tabs w
 deb:Deb w
structure Apart(S:Nat→Prop):Prop where
 a:¬S 0
 b:¬S 2
 c:¬S 3
 d:¬S 1
 e:¬S 5
theorem Tb.upd{S:Nat→Prop}{w w':World}(h:Tb w)(u:Upd S w w')(a:Apart S):Tb w':=⟨h.glob.upd u a.a,h.spans.upd u a.b,h.tabs.upd u a.c a.d,h.deb.upd u a.e⟩
theorem Tb.new{w w':World}(h:Tb w)(u:qy w w'):Tb w':=⟨h.glob.new u,h.spans.new u,h.tabs.new u,h.deb.new u⟩
theorem Tb.lt{w:World}(h:Tb w):0<w.heap.size∧2<w.heap.size∧3<w.heap.size∧1<w.heap.size∧5<w.heap.size :=
 ⟨World.block_lt_of_cell? w _ (h.glob.events 0 (by decide)),World.block_lt_of_cell? w _ (h.spans.spans 0 (by decide)),h.tabs.lt.1,h.tabs.lt.2,World.block_lt_of_cell? w _ (h.deb.tab 0 (by decide))⟩
theorem Apart.fr{S:Nat→Prop}{w:World}(h:Apart S)(t:Tb w)(w':World):Apart (Fr S w w'):=by
 obtain⟨a,b,c,d,e⟩:=t.lt
 refine⟨?_,?_,?_,?_,?_⟩
 ·rintro (k | k)
  ·exact h.a k
  ·omega
 ·rintro (k | k)
  ·exact h.b k
  ·omega
 ·rintro (k | k)
  ·exact h.c k
  ·omega
 ·rintro (k | k)
  ·exact h.d k
  ·omega
 ·rintro (k | k)
  ·exact h.e k
  ·omega
theorem Apart.mono{S T:Nat→Prop}(h:Apart S)(st:∀k,T k→S k):Apart T:=⟨fun k=>h.a (st _ k),fun k=>h.b (st _ k),fun k=>h.c (st _ k),fun k=>h.d (st _ k),fun k=>h.e (st _ k)⟩
theorem Fr.comp{S:Nat→Prop}{w1 f g:World}(h:w1.heap.size≤f.heap.size)(i:f.heap.size≤g.heap.size):∀k,Fr (Fr S w1 f) f g k→Fr S w1 g k:=by
 rintro k ((h | h) | h)
 ·exact .inl h
 ·exact .inr ⟨h.1,by omega⟩
 ·exact .inr ⟨by omega,h.2⟩
theorem Upd.fr{S:Nat→Prop}{w1 f g:World}(u:Upd S w1 f)(v:Upd (Fr S w1 f) f g):Upd S w1 g:=u.then v fun i l h=>by
 rcases h with h | h
 ·exact h
 ·omega
theorem ChS.comp{S:Nat→Prop}{w1 l i:World}{g:Nat}{c:Ch}(h:ChS i g (Fr (Fr S w1 l) l i) c)(m:w1.heap.size≤l.heap.size)(o:l.heap.size≤i.heap.size):ChS i g (Fr S w1 i) c:=by
 obtain⟨a,b,d,h⟩:=h
 refine⟨a,b,d,h.wider (Fr.comp m o) (fun k f=> ?_)⟩
 have:=h.lt g h.inG
 rcases f with f | f
 ·exact h.lt k (.inl (.inl f))
 ·exact f.2
theorem ChS.frW{S:Nat→Prop}{w1 f:World}{g:Nat}{c:Ch}(h:ChS f g S c):ChS f g (Fr S w1 f) c:=by
 obtain⟨a,b,d,h⟩:=h
 exact h.fr w1
theorem ChS.later{S:Nat→Prop}{w1 l i:World}{g:Nat}{c:Ch}(h:ChS i g (Fr S l i) c)(m:w1.heap.size≤l.heap.size):ChS i g (Fr S w1 i) c:=by
 obtain⟨a,b,d,h⟩:=h
 refine⟨a,b,d,h.wider (fun k f=> ?_) (fun k f=> ?_)⟩
 ·rcases f with f | f
  ·exact .inl f
  ·exact .inr ⟨by omega,f.2⟩
 ·rcases f with f | f
  ·exact h.lt k (.inl f)
  ·exact f.2
theorem ChS.grow{S:Nat→Prop}{w0 w1 i:World}{g:Nat}{c:Ch}(h:ChS i g (Fr S w0 w1) c)(l:w1.heap.size≤i.heap.size):ChS i g (Fr S w0 i) c:=by
 obtain⟨a,b,d,h⟩:=h
 refine⟨a,b,d,h.wider (fun k f=> ?_) (fun k f=> ?_)⟩
 ·rcases f with f | f
  ·exact .inl f
  ·exact .inr ⟨f.1,by omega⟩
 ·rcases f with f | f
  ·exact h.lt k (.inl f)
  ·exact f.2
end Go.Proofs.YtjpmomdechibmaaGreatDoor
namespace Go.Proofs.YtjpmomdechibmaaGreatDoor
open Go.RowKit Go.Sort
theorem get!_of{X:List Item}{n:Nat}{x:Item}(h:X[n]? = some x):X[n]! = x:=by rw[List.getElem!_eq_getElem?_getD,h];rfl
def ql5(w:World)(g off:Nat)(X:List Item):Prop :=
 ∃C T f,w.heap[g]? = some (.cells C T f)∧off+X.length*36≤C.size∧∀i x,X[i]? = some x→∀j,j<36→C[off+i*36+j]? = (zi x)[j]?
theorem ql5.row{w:World}{g off:Nat}{xs:List Item}(h:ql5 w g off xs){i:Nat}{x:Item}(m:xs[i]? = some x):zx w g (off+i*36) 36=some (zi x).toArray:=by
 obtain⟨C,T,v,o,y,q⟩:=h
 have l:i<xs.length:=(List.getElem?_eq_some_iff.1 m).1
 have f:off+i*36+36≤C.size:=by have:=Nat.mul_le_mul_right 36 (show i+1≤xs.length from l);omega
 rw[qca o _ _ f]
 congr 1
 apply Array.ext'
 apply List.ext_getElem?
 intro j
 rw[Array.getElem?_toList,Array.getElem?_extract]
 by_cases t:j<36
 ·rw[if_pos (by omega),q i x m j t]
 ·rw[if_neg (by omega),List.getElem?_eq_none (by rw[qcg];omega)]
theorem ql5.upd{S:Nat→Prop}{w w':World}{b off:Nat}{xs:List Item}(h:ql5 w b off xs)(u:Upd S w w')(i:¬S b):ql5 w' b off xs:=by
 obtain⟨C,T,f,g,r⟩:=h
 exact⟨C,T,f,u.old g i,r⟩
theorem ql5.lt{w:World}{g off:Nat}{xs:List Item}(h:ql5 w g off xs):g<w.heap.size:=by
 obtain⟨C,T,i,f,r⟩:=h
 exact zw f
theorem qdf.toR{w:World}{g off:Nat}{xs:List Item}(h:qdf w g off xs):ql5 w g off xs:=by
 obtain⟨C,T,l,q,m⟩:=h
 refine⟨C,T,_,l,q,fun i x f j o=> ?_⟩
 rw[m i (List.getElem?_eq_some_iff.1 f).1 j o,get!_of f]
def qe5(w:World)(v:Value)(X:List Item):Prop:=(∃a c,v = .slice a 0 c∧X=[])∨∃g off cap,v = .slice (some ⟨g,off,none⟩) X.length cap∧ql5 w g off X
theorem qe5.new{w w':World}{v:Value}{X:List Item}(h:qe5 w v X)(u:qy w w'):qe5 w' v X:=by
 rcases h with h | ⟨g,off,cap,e,h⟩
 ·exact .inl h
 ·exact .inr ⟨g,off,cap,e,h.upd u (fun h=>h)⟩
theorem qpp.toR{w:World}{v:Value}{X:List Item}(h:qpp w v X):qe5 w v X:=by
 rcases h with h | ⟨g,cap,e,h⟩
 ·exact .inl h
 ·exact .inr ⟨g,0,cap,e,h.toR⟩
theorem qe5.slice{w:World}{v:Value}{X:List Item}(h:qe5 w v X):∃a c,v = .slice a X.length c:=by
 rcases h with ⟨_,_,rfl,rfl⟩ | ⟨g,off,cap,rfl,_⟩
 ·exact⟨_,_,rfl⟩
 ·exact⟨_,_,rfl⟩
theorem qjn{w:World}{base:Nat}{e:TypeId}{size:Nat}{v:Value}{n:Nat}{xs:List Value}(h:w.ownsRow base e size v n xs):∀k,v.ownBlock=some k→base≤k:=by
 intro k f
 rcases h.2 with ⟨rfl,_⟩ | ⟨g,cap,i,rfl,l,_⟩
 ·simp[Value.ownBlock] at f
 ·simp[Value.ownBlock] at f;omega
theorem qe5.at{w:World}{a:Option Addr}{n c:Nat}{X:List Item}(h:qe5 w (.slice a n c) X){i:Nat}{x:Item}(f:X[i]? = some x) :
  ∃b off,a=some ⟨b,off,none⟩∧n=X.length∧zx w b (off+i*36) 36=some (zi x).toArray:=by
 rcases h with ⟨_,_,e,rfl⟩ | ⟨b,off,cap,e,g⟩
 ·simp at f
 ·cases e
  exact⟨b,off,rfl,rfl,g.row f⟩
end Go.Proofs.YtjpmomdechibmaaGreatDoor
namespace Go.Proofs.YtjpmomdechibmaaGreatDoor
open Go.RowKit
theorem qjm(g:Nat)(x:Int)(f:Nat)(wi:Int)(s:ByteArray)(w:World)(m:wi=f)(q:Wr w g s)(i:1≤f)(l:f≤8)(o:0≤x)(t:x<2 ^ (8*f))(v:s.size≤1073741824) :
  Calls Tryz.prog 86 #[.pointer (some ⟨g,0,none⟩),.int .u64 x,.int .i64 wi] w fun e w'=>e = .returned (.int .i64 0)∧Upd (fun k=>k=g) w w'∧Wr w' g (s++qdv x.toNat f):=by
 subst m
 obtain⟨n,rfl⟩:=Int.eq_ofNat_of_zero_le o
 rw[Int.toNat_natCast]
 exact q01 g n f s w q i l (by exact_mod_cast t) v
theorem qik(g:Nat)(x:Int)(s:ByteArray)(w:World)(i:Wr w g s)(f:0≤x)(l:x<18446744073709551616)(m:s.size≤1073741824) :
  Calls Tryz.prog 86 #[.pointer (some ⟨g,0,none⟩),.int .u64 x,.int .i64 8] w fun e w'=>e = .returned (.int .i64 0)∧Upd (fun k=>k=g) w w'∧Wr w' g (s++qdv x.toNat 8) :=
 qjm g x 8 8 s w rfl i (by decide) (by decide) f l m
theorem q85(g:Nat)(x:Int)(s:ByteArray)(w:World)(i:Wr w g s)(f:0≤x)(l:x<4294967296)(m:s.size≤1073741824) :
  Calls Tryz.prog 86 #[.pointer (some ⟨g,0,none⟩),.int .u64 x,.int .i64 4] w fun e w'=>e = .returned (.int .i64 0)∧Upd (fun k=>k=g) w w'∧Wr w' g (s++qdv x.toNat 4) :=
 qjm g x 4 4 s w rfl i (by decide) (by decide) f l m
theorem q84(g:Nat)(x:Int)(s:ByteArray)(w:World)(i:Wr w g s)(f:0≤x)(l:x<65536)(m:s.size≤1073741824) :
  Calls Tryz.prog 86 #[.pointer (some ⟨g,0,none⟩),.int .u64 x,.int .i64 2] w fun e w'=>e = .returned (.int .i64 0)∧Upd (fun k=>k=g) w w'∧Wr w' g (s++qdv x.toNat 2) :=
 qjm g x 2 2 s w rfl i (by decide) (by decide) f l m
theorem q83(g:Nat)(x:Int)(s:ByteArray)(w:World)(i:Wr w g s)(f:0≤x)(l:x<256)(m:s.size≤1073741824) :
  Calls Tryz.prog 86 #[.pointer (some ⟨g,0,none⟩),.int .u64 x,.int .i64 1] w fun e w'=>e = .returned (.int .i64 0)∧Upd (fun k=>k=g) w w'∧Wr w' g (s++qdv x.toNat 1) :=
 qjm g x 1 1 s w rfl i (by decide) (by decide) f l m
end Go.Proofs.YtjpmomdechibmaaGreatDoor
namespace Go.Proofs.YtjpmomdechibmaaGreatDoor
open Go.RowKit Go.Sort
def qg2(s:ByteArray)(x:Item):ByteArray:=s++qdv (if x.offered then 1 else 0) 1++qdv x.h.id.toNat 8++qdv x.h.amount.toNat 8++strOfNums x.h.hash.toList++qdv (x.h.expiry%18446744073709551616).toNat 8
def qs1(ch n A B:Int)(m:Nat):ByteArray:=qdv ch.toNat 4++qdv (n%18446744073709551616).toNat 8++qdv A.toNat 8++qdv B.toNat 8++qdv (m%65536) 2
def qj3(ch n A B:Int)(X:List Item):ByteArray:=X.foldl qg2 (qs1 ch n A B X.length)
theorem qxv(s:ByteArray)(x:Item):(qg2 s x).size=s.size+57:=by
 unfold qg2
 simp only[ByteArray.size_append,qgs,strOfNums_size]
 simp
theorem qqe(ch n A B:Int)(m:Nat):(qs1 ch n A B m).size=30:=by
 unfold qs1
 simp only[ByteArray.size_append,qgs]
theorem qsx(X:List Item):∀s:ByteArray,(X.foldl qg2 s).size=s.size+57*X.length:=by
 induction X with
 | nil=>intro s;simp
 | cons x X f=>intro s;rw[List.foldl_cons,f,qxv,List.length_cons];omega
theorem q4i(X:List Item)(s:ByteArray){k:Nat}{x:Item}(h:X[k]? = some x):(X.take (k+1)).foldl qg2 s=qg2 ((X.take k).foldl qg2 s) x:=by
 rw[List.take_add_one,h]
 simp
def qua:Array Value:=(.bool false :: .int .u64 0 :: .int .u64 0::(List.replicate 32 (.int .u8 0)++[.int .i64 0]):List Value).toArray
theorem q39(s:ByteArray):(ByteArray.mk #[])++s=s:=by
 apply ByteArray.ext
 simp
theorem qid(x:Item)(i:Nat)(g:i<36){w:World}{b:Nat}{T:TypeId}{f:Nat × Nat}(h:w.heap[b]? = some (.cells (zi x).toArray T f)):w.cell? ⟨b,i,none⟩=(zi x)[i]? := by
 rw[qh h,List.getElem?_toArray]
theorem qxf(x:Item){w:World}{b:Nat}{T:TypeId}{f:Nat × Nat}(h:w.heap[b]? = some (.cells (zi x).toArray T f)):zx w b 3 32=some (x.h.hash.toList.map (Value.int .u8)).toArray:=by
 rw[qca h 3 32 (by simp[qcg])]
 congr 1
 apply Array.ext'
 rw[Array.toList_extract]
 unfold zi q9
 simp
theorem q2s(x:Item):(zi x)[35]? = some (.int .i64 x.h.expiry):=by
 unfold zi q9
 rw[List.getElem?_cons_succ,List.getElem?_cons_succ,List.getElem?_cons_succ,List.getElem?_append_right (by simp)]
 simp
theorem Tryz.infoHashT:(Tryz.prog.info? 28).map (·.size)=some 32:=by kernel_rfl
def q2u(x:Value):Sem Value:=Instr.loadAt 28 x
theorem qr9(x:Value):Instr.loadAt 28 x=q2u x:=rfl
theorem q8i(b o:Nat)(w:World):(q2u (.pointer (some ⟨b,o,none⟩))).run Tryz.prog w=match zx w b o 32 with | some A=> .ok (.agg A) w | none=>qdw Tryz.prog 28 w b o :=
 zy 28 32 _ Tryz.underlying28 rfl Tryz.infoHashT b o w
attribute [local go_sem ↓ high] qgj qr9
attribute [local go_sem] qpe q8i
set_option maxRecDepth 100000 in
set_option maxHeartbeats 4000000 in
theorem zac(ch n A B:Int)(u:Value)(X:List Item)(hl:X.length≤1048576)(e5:∀x∈X,HtlcOk x.h)(w:World)(hc:0≤ch∧ch<4294967296)(hn : -9223372036854775808≤n∧n≤9223372036854775807)
  (hA:0≤A∧A<18446744073709551616) (hB:0≤B∧B<18446744073709551616) (hu:qe5 w u X) :
  Calls Tryz.prog 59 #[.int .u32 ch,.int .i64 n,.agg #[.int .u64 A,.int .u64 B,u]] w (qa7 (.string (qj3 ch n A B X)) w):=by
 obtain⟨a,c,rfl⟩:=hu.slice
 go_enter Tryz.func59,Tryz.ntmps59
 go_upto_region 2 with fail
 have y:qy w ((w.alloc (.cells #[.int .u64 A,.int .u64 B,.slice a X.length c] 100)).alloc (.cells #[.string ⟨#[]⟩] 154)):=((Upd.refl _ _).alloc _).alloc _
 have g:((w.alloc (.cells #[.int .u64 A,.int .u64 B,.slice a X.length c] 100)).alloc (.cells #[.string ⟨#[]⟩] 154)).heap[w.heap.size]? = some (.cells #[.int .u64 A,.int .u64 B,.slice a X.length c] 100 (0,0)):=zl (qi _ _) _
 have hg:Wr ((w.alloc (.cells #[.int .u64 A,.int .u64 B,.slice a X.length c] 100)).alloc (.cells #[.string ⟨#[]⟩] 154)) (w.heap.size+1) ⟨#[]⟩:=by
  have:=qi (w.alloc (.cells #[.int .u64 A,.int .u64 B,.slice a X.length c] 100)) (.cells #[.string ⟨#[]⟩] 154)
  rwa [World.size_alloc] at this
 generalize (w.alloc (.cells #[.int .u64 A,.int .u64 B,.slice a X.length c] 100)).alloc (.cells #[.string ⟨#[]⟩] 154)=w1 at y g hg ⊢
 have HA:=qb hA
 have HB:=qb hB
 obtain⟨O,a5⟩:∃O:Int,O=n%18446744073709551616:=⟨_,rfl⟩
 have T:=qb (show 0≤O∧O<18446744073709551616 by omega)
 have e8:IntKind.u64.wrap n=O:=by rw[IntKind.wrap_u64,a5]
 have H:qs1 ch n A B X.length=qdv ch.toNat 4++qdv O.toNat 8++qdv A.toNat 8++qdv B.toNat 8++qdv (X.length%65536) 2:=by rw[a5];rfl
 have f:=qb H
 obtain⟨b8,b9⟩:=hc
 have s4:=fun x=>qgs x 4
 have s8:=fun x=>qgs x 8
 have b3:=qb s4
 have z:=qb s8
 clear a5 H hA hB hn s4 s8
 have e3:w.heap.size+1<w1.heap.size:=hg.lt
 have f7:(X.length:Int)≤1048576:=by omega
 obtain⟨G,hG⟩:∃G,G=w.heap.size+1:=⟨_,rfl⟩
 rw[←hG] at hg e3 ⊢
 have f5:w.heap.size<G:=by omega
 clear hG
 go_wp2_with fail
 refine(q85 G ch ⟨#[]⟩ w1 hg b8 b9 (by decide)).mono ?_
 rintro e w2 ⟨rfl,u2,g2⟩
 rw[q39] at g2
 replace g:=u2.old g (by omega)
 replace y:=y.then u2 (fun q M h=>by omega)
 clear hg u2 b8 b9
 have z2:(qdv ch.toNat 4).size=4:=qa b3 _
 generalize qdv ch.toNat 4=t4 at g2 z2 f
 have D:=qh g 0
 have E:=qh g 1
 have t:=qh g 2
 simp at D E t
 go_wp2_with fail
 refine(qik G O t4 w2 g2 (qa T).1 (qa T).2 (by omega)).mono ?_
 rintro e w3 ⟨rfl,u3,g3⟩
 replace g:=u3.old g (by omega)
 replace y:=y.then u3 (fun q M h=>by omega)
 clear D E t g2 u3
 have z3:(t4++qdv O.toNat 8).size=12:=by rw[ByteArray.size_append,z2,qa z]
 generalize t4++qdv O.toNat 8=t5 at g3 z3 f
 have D:=qh g 0
 have E:=qh g 1
 have t:=qh g 2
 simp at D E t
 go_wp2_with fail
 refine(qik G A t5 w3 g3 (qa HA).1 (qa HA).2 (by omega)).mono ?_
 rintro e w4 ⟨rfl,u4,g4⟩
 replace g:=u4.old g (by omega)
 replace y:=y.then u4 (fun q M h=>by omega)
 clear D E t g3 u4
 have z4:(t5++qdv A.toNat 8).size=20:=by rw[ByteArray.size_append,z3,qa z]
 generalize t5++qdv A.toNat 8=t6 at g4 z4 f
 have D:=qh g 0
 have E:=qh g 1
 have t:=qh g 2
 simp at D E t
 go_wp2_with fail
 refine(qik G B t6 w4 g4 (qa HB).1 (qa HB).2 (by omega)).mono ?_
 rintro e w5 ⟨rfl,u5,g5⟩
 replace g:=u5.old g (by omega)
 replace y:=y.then u5 (fun q M h=>by omega)
 clear D E t g4 u5
 have z5:(t6++qdv B.toNat 8).size=28:=by rw[ByteArray.size_append,z4,qa z]
 generalize t6++qdv B.toNat 8=t7 at g5 z5 f
 have D:=qh g 0
 have E:=qh g 1
 have t:=qh g 2
 simp at D E t
 go_wp2_with fail
 refine(q84 G _ t7 w5 g5 (by omega) (by omega) (by omega)).mono ?_
 rintro e w6 ⟨rfl,u6,g6⟩
 replace g:=u6.old g (by omega)
 replace y:=y.then u6 (fun q M h=>by omega)
 clear D E t g5 u6
 have d3:((X.length:Int)%65536).toNat=X.length%65536:=by omega
 rw[d3,←qa f] at g6
 have zh:=qqe ch n A B X.length
 have a7:qj3 ch n A B X=X.foldl qg2 (qs1 ch n A B X.length):=rfl
 generalize qs1 ch n A B X.length=hd at g6 zh a7
 have b4:=qb a7
 clear d3 a7 z2 z3 z4 z5 f b3 e8 T HA HB
 have t:=qh g 2
 simp at t
 go_wp2_with fail
 clear t
 obtain⟨wo,rfl⟩:∃wo:World,wo=w6:=⟨_,rfl⟩
 have HU:=qb hu
 clear hu
 go_loopw [9,38] (fun _ iv wr=>∃k:Nat,iv = .int .i64 (k:Int)∧k≤X.length∧Wr wr G ((X.take k).foldl qg2 hd)∧qy w wr) (fun _ iv _=>X.length-(intOf iv).toNat)
 case atStart=>exact⟨0,rfl,Nat.zero_le _,g6,y⟩
 case round =>
  clear g6 y
  obtain⟨k,rfl,hk,gk,m⟩:=hrel
  obtain⟨l,rfl⟩:∃l:World,l=wr:=⟨_,rfl⟩
  by_cases e4:k<X.length
  ·obtain⟨x,hx⟩:∃x,X[k]? = some x:=⟨_,List.getElem?_eq_getElem e4⟩
   obtain⟨b,off,rfl,-,c7⟩:=((qa HU).new m).at hx
   have R:=e5 x (List.mem_of_getElem? hx)
   have o:=q4i X hd hx
   have a6:=qsx (X.take k) hd
   rw[zh,List.length_take,Nat.min_eq_left hk] at a6
   have f6:(k:Int)<(X.length:Int):=by omega
   have d7:=gk.lt
   generalize (X.take k).foldl qg2 hd=s0 at gk o a6
   have HF:=qb o
   have J:=qb R
   clear hx o R
   go_upto_region 9 with fail
   refine wp_region_lit ?_
   refine zc rfl (v:= .pointer (some ⟨b,off+k*36,none⟩)) (w':=l) (by simp only[execOp];go_simp) ?_
   refine zc rfl (v:= .agg (zi x).toArray) (w':=l) (by simp only[execOp];go_simp) ?_
   refine zc rfl (v:= .pointer (some ⟨l.heap.size,0,none⟩)) (w':=l.alloc (.cells qua 129)) (by kernel_rfl) ?_
   have n1:qy l (l.alloc (.cells qua 129)):=(Upd.refl _ _).alloc _
   have L:(l.alloc (.cells qua 129)).heap[l.heap.size]? = some (.cells qua 129 (0,0)):=qi _ _
   generalize l.alloc (.cells qua 129)=a8 at n1 L ⊢
   refine wpList_store_row rfl _ _ _ rfl l.heap.size (zi x).toArray (by kernel_rfl) (by kernel_rfl) 129 _ L (by rw[List.size_toArray,qcg];exact Tryz.infoItem) (by have h9:qua.size=36:=rfl;rw[h9];simp[qcg]) (by rw[List.all_toArray,List.all_eq_true];exact qqp x) ?_
   have i:=setRow_heap a8 l.heap.size _ (zi x).toArray 129 (0,0) L
   have n2:qy l (a8.setRow l.heap.size (zi x).toArray):=n1.setRow (fun h=>by omega) _
   generalize a8.setRow l.heap.size (zi x).toArray=e9 at i n2 ⊢
   replace gk:=gk.new n2
   replace m:=m.trans n2
   have d8:G<l.heap.size:=d7
   have d9:w.heap.size≤l.heap.size:=by omega
   generalize l.heap.size=I at i d8 d9 ⊢
   clear n1 L n2 c7
   have c8:=qaq i 36 (by simp[qcg])
   have c0:(zi x)[0]? = some (.bool x.offered):=rfl
   have c6:=qra x.offered (zi x).toArray e9 (by rw[List.getElem?_toArray];exact c0)
   have e6:(1-qfk x.offered).toNat=(if x.offered then 1 else 0)∧0≤1-qfk x.offered∧1-qfk x.offered≤1∧0≤qfk x.offered∧qfk x.offered≤1:=by cases x.offered<;>decide
   obtain⟨P,c5,f1,f2,f3⟩:=e6
   have d5:=qb P
   have U:=qb c6
   clear c0 c6 P
   generalize b7:(zi x).toArray=IC at c8 U
   have f4:=qb b7
   clear b7
   go_wp2_with fail
   refine(qa U).mono ?_
   rintro e f0 ⟨rfl,n3⟩
   have m3:=_root_.Go.Proofs.YtjpmomdechibmaaGreatDoor.G.new n3
   replace i:=m3.old i (fun h=>h)
   replace gk:=gk.new m3
   replace m:=m.trans m3
   clear m3 n3 c8 U
   go_wp2_with fail
   refine(q83 G (1-qfk x.offered) s0 f0 gk c5 (by omega) (by omega)).mono ?_
   rintro e w4 ⟨rfl,u4,K⟩
   replace i:=u4.old i (by omega)
   replace m:=m.then u4 (fun q M h=>by omega)
   clear u4
   rw[qa d5] at K
   have y4:(s0++qdv (if x.offered then 1 else 0) 1).size=31+57*k:=by rw[ByteArray.size_append,a6,qgs];omega
   generalize c1:s0++qdv (if x.offered then 1 else 0) 1=p4 at K y4
   have d1:=qid x 1 (by decide) i
   have d2:=qid x 2 (by decide) i
   have C:=qid x 35 (by decide) i
   rw[q2s] at C
   have dh:=qxf x i
   replace d1:w4.cell? ⟨I,1,none⟩=some (.int .u64 x.h.id):=d1
   clear d2 C dh gk
   go_wp2_with fail
   refine(qik G x.h.id p4 w4 K (qa J).id.1 (by have:=(qa J).id.2;omega) (by omega)).mono ?_
   rintro e w5 ⟨rfl,u5,W⟩
   replace i:=u5.old i (by omega)
   replace m:=m.then u5 (fun q M h=>by omega)
   clear u5
   have y5:(p4++qdv x.h.id.toNat 8).size=39+57*k:=by rw[ByteArray.size_append,y4,qa z];omega
   generalize c2:p4++qdv x.h.id.toNat 8=p5 at W y5
   have d2:w5.cell? ⟨I,2,none⟩=some (.int .u64 x.h.amount):=qid x 2 (by decide) i
   clear d1 K
   go_wp2_with fail
   refine(qik G x.h.amount p5 w5 W (qa J).amount.1 (by have:=(qa J).amount.2;omega) (by omega)).mono ?_
   rintro e w6 ⟨rfl,u6,Y⟩
   replace i:=u6.old i (by omega)
   replace m:=m.then u6 (fun q M h=>by omega)
   clear u6
   have y6:(p5++qdv x.h.amount.toNat 8).size=47+57*k:=by rw[ByteArray.size_append,y5,qa z];omega
   generalize c3:p5++qdv x.h.amount.toNat 8=p6 at Y y6
   have dh:=qxf x i
   generalize b6:(x.h.hash.toList.map (Value.int .u8)).toArray=HC at dh
   have F:=qb (q71 G x.h.hash.toList p6 w6 Y (by simp) (by omega))
   rw[b6] at F
   clear d2 W b6 Y
   go_wp2_with fail
   refine(qa F).mono ?_
   rintro e w7 ⟨rfl,u7,Z⟩
   replace i:=u7.old i (by omega)
   replace m:=m.then u7 (fun q M h=>by omega)
   clear u7 F dh
   have y7:(p6++strOfNums x.h.hash.toList).size=79+57*k:=by rw[ByteArray.size_append,y6,strOfNums_size];simp;omega
   generalize c4:p6++strOfNums x.h.hash.toList=p7 at Z y7
   have C:=qid x 35 (by decide) i
   rw[q2s] at C
   obtain⟨V,a4⟩:∃V:Int,V=x.h.expiry%18446744073709551616:=⟨_,rfl⟩
   have a9:=qb (show 0≤V∧V<18446744073709551616 by omega)
   have e7:IntKind.u64.wrap x.h.expiry=V:=by rw[IntKind.wrap_u64,a4]
   have d4:=qb a4
   clear a4
   go_wp2_with fail
   refine(qik G V p7 w7 Z (qa a9).1 (qa a9).2 (by omega)).mono ?_
   rintro e w8 ⟨rfl,u8,b5⟩
   replace i:=u8.old i (by omega)
   replace m:=m.then u8 (fun q M h=>by omega)
   clear u8
   have c9:p7++qdv V.toNat 8=(X.take (k+1)).foldl qg2 hd:=by
    rw[qa HF,←c4,←c3,←c2,←c1,qa d4]
    rfl
   rw[c9] at b5
   clear C e7 c1 c2 c3 c4 c9 Z
   go_wp2
   go_roundw
   case rel=>exact⟨k+1,by go_num,by omega,b5,m⟩
   case measure=>simp[intOf];omega
  ·obtain rfl:k=X.length:=by omega
   rw[List.take_length,←qa b4] at gk
   generalize d0:qj3 ch n A B X=tt at gk b4
   have d6:=qb d0
   clear d0
   go_wp2_with fail
   refine(qzt G tt l gk).mono ?_
   rintro e w9 ⟨rfl,rfl⟩
   go_wp2
   go_ret
   exact⟨by rw[qa d6];rfl,m⟩
end Go.Proofs.YtjpmomdechibmaaGreatDoor
