/-
  Fields of messages: what sets each to 0.
-/
import Derived.Test.YtjpmomdechibmaaGreatDoorMbd
import Derived.Test.YtjpmomdechibmaaGreatDoorMca
set_option linter.unusedVariables false
set_option linter.unusedSimpArgs false
namespace Go.Proofs.YtjpmomdechibmaaGreatDoor
open Go.RowKit
inductive Fld where
 | ch
 | id
 | amount
 | hash
 | expiry
 | number
def Fld.zero(x:Fld)(m:MsgV):MsgV :=
 match x with
 | .ch=> {m with ch:=0}
 | .id=> {m with id:=0}
 | .amount=> {m with amount:=0}
 | .hash=> {m with hash:=zz}
 | .expiry=> {m with expiry:=0}
 | .number=> {m with number:=0}
def qil(base:Nat)(w:World)(v:Value)(f F:FuncId)(n:Int):Prop :=
 ∃p q,v = .func (.func f) #[] #[.pointer (some ⟨p,0,none⟩),.pointer (some ⟨q,0,none⟩)]∧base≤p∧base≤q∧w.cell? ⟨p,0,none⟩=some (.func (.func F) #[] #[])∧w.cell? ⟨q,0,none⟩=some (.int .i64 n)
def qjn(base:Nat)(w:World)(v:Value)(x:Fld):Prop :=
 match x with
 | .ch=>qil base w v 134 120 4
 | .id=>qil base w v 115 96 8
 | .amount=>qil base w v 115 97 8
 | .hash=>v = .func (.func 102) #[] #[]
 | .expiry=>qil base w v 118 99 4
 | .number=>qil base w v 118 100 2
theorem qil.upd{base:Nat}{w w':World}{v:Value}{f F:FuncId}{n:Int}{S:Nat→Prop}(h:qil base w v f F n)(u:Upd S w w')(g:∀k,base≤k→¬S k):qil base w' v f F n:=by
 obtain⟨p,q,e,i,j,l,m⟩:=h
 exact⟨p,q,e,i,j,u.cell l (g p i),u.cell m (g q j)⟩
theorem qjn.upd{base:Nat}{w w':World}{v:Value}{x:Fld}{S:Nat→Prop}(h:qjn base w v x)(u:Upd S w w')(f:∀k,base≤k→¬S k):qjn base w' v x:=by
 cases x<;>first | exact qil.upd h u f | exact h
theorem qjn.new{base:Nat}{w w':World}{v:Value}{x:Fld}(h:qjn base w v x)(u:qx w w'):qjn base w' v x:=h.upd u (fun _ _ h=>h)
theorem qil.one{base:Nat}{w:World}{v:Value}{f F:FuncId}{n:Int}(h:qil base w v f F n):v.oneCell'=true:=by
 obtain⟨p,q,rfl,_⟩:=h
 rfl
theorem qjn.one{base:Nat}{w:World}{v:Value}{x:Fld}(h:qjn base w v x):v.oneCell'=true:=by
 cases x<;>first | exact qil.one h | (have h:v=_:=h;rw[h];rfl)
theorem zcy(m:MsgV)(n:Int):m.cells.toArray.setIfInBounds 1 (.int .u32 n)=({m with ch:=n} : MsgV).cells.toArray:=rfl
theorem zcz(m:MsgV)(n:Int):m.cells.toArray.setIfInBounds 2 (.int .u64 n)=({m with id:=n} : MsgV).cells.toArray:=rfl
theorem qz5(m:MsgV)(n:Int):m.cells.toArray.setIfInBounds 3 (.int .u64 n)=({m with amount:=n} : MsgV).cells.toArray:=rfl
theorem qwq(m:MsgV)(h:m.hash.length=32):m.cells=(.int .i64 m.kind :: .int .u32 m.ch :: .int .u64 m.id :: .int .u64 m.amount::zb m.hash)++[.int .i64 m.expiry,.int .i64 m.number]:=rfl
theorem qz7(m:MsgV)(h:m.hash.length=32)(n:Int):m.cells.toArray.setIfInBounds 36 (.int .i64 n)=({m with expiry:=n} : MsgV).cells.toArray:=by
 rw[List.setIfInBounds_toArray,qwq m h,List.set_append_right _ _ (by simp[zb,h])]
 congr 1
 show _=(.int .i64 m.kind :: .int .u32 m.ch :: .int .u64 m.id :: .int .u64 m.amount::zb m.hash)++[.int .i64 n,.int .i64 m.number]
 simp[zb,h]
theorem qz8(m:MsgV)(h:m.hash.length=32)(n:Int):m.cells.toArray.setIfInBounds 37 (.int .i64 n)=({m with number:=n} : MsgV).cells.toArray:=by
 rw[List.setIfInBounds_toArray,qwq m h,List.set_append_right _ _ (by simp[zb,h])]
 congr 1
 show _=(.int .i64 m.kind :: .int .u32 m.ch :: .int .u64 m.id :: .int .u64 m.amount::zb m.hash)++[.int .i64 m.expiry,.int .i64 n]
 simp[zb,h]
theorem q7x(m:MsgV)(h:m.hash.length=32)(k:List Int)(f:k.length=32):qj1 m.cells.toArray 4 (zb k)=({m with hash:=k} : MsgV).cells.toArray :=
 qr6 [.int .i64 m.kind,.int .u32 m.ch,.int .u64 m.id,.int .u64 m.amount] (zb m.hash) [.int .i64 m.expiry,.int .i64 m.number] (zb k) 4 rfl (by rw[qaw,qaw,h,f])
attribute [local go_sem ↓ high] z7 qal qan qa0
attribute [local go_sem] qcp qdl qdr qfx zn
theorem q9i(A:Nat)(w:World):Calls Tryz.prog 96 #[.pointer (some ⟨A,0,none⟩)] w (qci (.pointer (some ⟨A,2,none⟩)) w):=by
 go_enter Tryz.func96,Tryz.ntmps96
 go_wp2_with fail
 go_ret
 exact⟨rfl,Q.refl _⟩
theorem q9j(A:Nat)(w:World):Calls Tryz.prog 97 #[.pointer (some ⟨A,0,none⟩)] w (qci (.pointer (some ⟨A,3,none⟩)) w):=by
 go_enter Tryz.func97,Tryz.ntmps97
 go_wp2_with fail
 go_ret
 exact⟨rfl,Q.refl _⟩
theorem q9k(A:Nat)(w:World):Calls Tryz.prog 99 #[.pointer (some ⟨A,0,none⟩)] w (qci (.pointer (some ⟨A,36,none⟩)) w):=by
 go_enter Tryz.func99,Tryz.ntmps99
 go_wp2_with fail
 go_ret
 exact⟨rfl,Q.refl _⟩
theorem q9l(A:Nat)(w:World):Calls Tryz.prog 100 #[.pointer (some ⟨A,0,none⟩)] w (qci (.pointer (some ⟨A,37,none⟩)) w):=by
 go_enter Tryz.func100,Tryz.ntmps100
 go_wp2_with fail
 go_ret
 exact⟨rfl,Q.refl _⟩
theorem q9m(A:Nat)(w:World):Calls Tryz.prog 120 #[.pointer (some ⟨A,0,none⟩)] w (qci (.pointer (some ⟨A,1,none⟩)) w):=by
 go_enter Tryz.func120,Tryz.ntmps120
 go_wp2_with fail
 go_ret
 exact⟨rfl,Q.refl _⟩
def qia:Value:= .agg #[.pointer none,.pointer none]
set_option maxRecDepth 100000 in
set_option maxHeartbeats 1000000 in
theorem qn7(F:FuncId)(o A p q:Nat)(x:Int)(m:MsgV)(w:World)(N:∀args w,(callFunc F args).run Tryz.prog w = .ok (.enter F args) w)(H:∀w,Calls Tryz.prog F #[.pointer (some ⟨A,0,none⟩)] w (qci (.pointer (some ⟨A,o,none⟩)) w))(z:w.cell? ⟨p,0,none⟩=some (.func (.func F) #[] #[]))(y:MsB w A m)(I:m.cells[o]? = some (.int .u64 x)) :
  Calls Tryz.prog 115 #[qia,.pointer (some ⟨A,0,none⟩),.pointer (some ⟨p,0,none⟩),.pointer (some ⟨q,0,none⟩)] w fun e w'=>e = .returned (.tuple #[])∧∃w1,qx w w1∧w'=w1.setCell ⟨A,o,none⟩ (.int .u64 0):=by
 unfold qia
 go_enter Tryz.func115,Tryz.ntmps115
 go_upto_region 1 with fail
 have g:qx w (w.alloc (.cells #[.pointer none,.pointer none] 138)):=(Upd.refl _ _).alloc _
 have l:=qi w (.cells #[.pointer none,.pointer none] 138)
 generalize w.alloc (.cells #[.pointer none,.pointer none] 138)=w1 at g l ⊢
 generalize w.heap.size=B at l ⊢
 have v:=g.cell z (fun h=>h)
 have D:=qb (y.new g)
 have t:=qb l
 clear l z y
 go_wp2_with fail
 refine(H w1).mono ?_
 rintro e j ⟨rfl,i⟩
 have C:qx w j:=g.trans (i.upd _)
 have f:=(qa D).new (i.upd _)
 have K:j.cell? ⟨B,0,none⟩=some (.pointer none):=i.cell (qg (qa t) 0)
 have L:j.cell? ⟨B,1,none⟩=some (.pointer none):=i.cell (qg (qa t) 1)
 have J:j.cell? ⟨A,o,none⟩=some (.int .u64 x):=by rw[qg f.at_,List.getElem?_toArray];exact I
 have M:j.frozen? ⟨A,o,none⟩=false:=qm f.at_ o
 have E:=qb C
 clear f i C g v t
 go_wp2_with (with_reducible first|(first|refine' tw1 (qh ?_) ?_|refine' tw2 (qh ?_) ?_);rotate_left|refine' tw3 (qh ?_)|rfl|apply tn|refine' tw4 ?_)
 go_end0
 exact⟨rfl,_,qa E,rfl⟩
set_option maxRecDepth 100000 in
set_option maxHeartbeats 1000000 in
theorem qn6(F:FuncId)(o A p q:Nat)(x:Int)(m:MsgV)(w:World)(N:∀args w,(callFunc F args).run Tryz.prog w = .ok (.enter F args) w)(H:∀w,Calls Tryz.prog F #[.pointer (some ⟨A,0,none⟩)] w (qci (.pointer (some ⟨A,o,none⟩)) w))(z:w.cell? ⟨p,0,none⟩=some (.func (.func F) #[] #[]))(y:MsB w A m)(I:m.cells[o]? = some (.int .i64 x)) :
  Calls Tryz.prog 118 #[qia,.pointer (some ⟨A,0,none⟩),.pointer (some ⟨p,0,none⟩),.pointer (some ⟨q,0,none⟩)] w fun e w'=>e = .returned (.tuple #[])∧∃w1,qx w w1∧w'=w1.setCell ⟨A,o,none⟩ (.int .i64 0):=by
 unfold qia
 go_enter Tryz.func118,Tryz.ntmps118
 go_upto_region 1 with fail
 have g:qx w (w.alloc (.cells #[.pointer none,.pointer none] 138)):=(Upd.refl _ _).alloc _
 have l:=qi w (.cells #[.pointer none,.pointer none] 138)
 generalize w.alloc (.cells #[.pointer none,.pointer none] 138)=w1 at g l ⊢
 generalize w.heap.size=B at l ⊢
 have v:=g.cell z (fun h=>h)
 have D:=qb (y.new g)
 have t:=qb l
 clear l z y
 go_wp2_with fail
 refine(H w1).mono ?_
 rintro e j ⟨rfl,i⟩
 have C:qx w j:=g.trans (i.upd _)
 have f:=(qa D).new (i.upd _)
 have K:j.cell? ⟨B,0,none⟩=some (.pointer none):=i.cell (qg (qa t) 0)
 have L:j.cell? ⟨B,1,none⟩=some (.pointer none):=i.cell (qg (qa t) 1)
 have J:j.cell? ⟨A,o,none⟩=some (.int .i64 x):=by rw[qg f.at_,List.getElem?_toArray];exact I
 have M:j.frozen? ⟨A,o,none⟩=false:=qm f.at_ o
 have E:=qb C
 clear f i C g v t
 go_wp2_with (with_reducible first|(first|refine' tw1 (qh ?_) ?_|refine' tw2 (qh ?_) ?_);rotate_left|refine' tw3 (qh ?_)|rfl|apply tn|refine' tw4 ?_)
 go_end0
 exact⟨rfl,_,qa E,rfl⟩
set_option maxRecDepth 100000 in
set_option maxHeartbeats 1000000 in
theorem qx8(F:FuncId)(o A p q:Nat)(x:Int)(m:MsgV)(w:World)(N:∀args w,(callFunc F args).run Tryz.prog w = .ok (.enter F args) w)(H:∀w,Calls Tryz.prog F #[.pointer (some ⟨A,0,none⟩)] w (qci (.pointer (some ⟨A,o,none⟩)) w))(z:w.cell? ⟨p,0,none⟩=some (.func (.func F) #[] #[]))(y:MsB w A m)(I:m.cells[o]? = some (.int .u32 x)) :
  Calls Tryz.prog 134 #[qia,.pointer (some ⟨A,0,none⟩),.pointer (some ⟨p,0,none⟩),.pointer (some ⟨q,0,none⟩)] w fun e w'=>e = .returned (.tuple #[])∧∃w1,qx w w1∧w'=w1.setCell ⟨A,o,none⟩ (.int .u32 0):=by
 unfold qia
 go_enter Tryz.func134,Tryz.ntmps134
 go_upto_region 1 with fail
 have g:qx w (w.alloc (.cells #[.pointer none,.pointer none] 138)):=(Upd.refl _ _).alloc _
 have l:=qi w (.cells #[.pointer none,.pointer none] 138)
 generalize w.alloc (.cells #[.pointer none,.pointer none] 138)=w1 at g l ⊢
 generalize w.heap.size=B at l ⊢
 have v:=g.cell z (fun h=>h)
 have D:=qb (y.new g)
 have t:=qb l
 clear l z y
 go_wp2_with fail
 refine(H w1).mono ?_
 rintro e j ⟨rfl,i⟩
 have C:qx w j:=g.trans (i.upd _)
 have f:=(qa D).new (i.upd _)
 have K:j.cell? ⟨B,0,none⟩=some (.pointer none):=i.cell (qg (qa t) 0)
 have L:j.cell? ⟨B,1,none⟩=some (.pointer none):=i.cell (qg (qa t) 1)
 have J:j.cell? ⟨A,o,none⟩=some (.int .u32 x):=by rw[qg f.at_,List.getElem?_toArray];exact I
 have M:j.frozen? ⟨A,o,none⟩=false:=qm f.at_ o
 have E:=qb C
 clear f i C g v t
 go_wp2_with (with_reducible first|(first|refine' tw1 (qh ?_) ?_|refine' tw2 (qh ?_) ?_);rotate_left|refine' tw3 (qh ?_)|rfl|apply tn|refine' tw4 ?_)
 go_end0
 exact⟨rfl,_,qa E,rfl⟩
set_option maxRecDepth 100000 in
set_option maxHeartbeats 1000000 in
theorem quz(A:Nat)(m:MsgV)(w:World)(j:MsB w A m) :
  Calls Tryz.prog 102 #[qia,.pointer (some ⟨A,0,none⟩)] w fun e w'=>e = .returned (.tuple #[])∧∃w1,qx w w1∧w'=w1.setCells A 4 (zb zz):=by
 unfold qia
 go_enter Tryz.func102,Tryz.ntmps102
 go_upto_region 2 with fail
 have i:qx w (w.alloc (.cells #[.pointer none,.pointer none] 138)):=(Upd.refl _ _).alloc _
 have g:=qi w (.cells #[.pointer none,.pointer none] 138)
 generalize w.alloc (.cells #[.pointer none,.pointer none] 138)=w1 at i g ⊢
 generalize w.heap.size=B at g ⊢
 have f:=j.new i
 have t:w1.cell? ⟨B,0,none⟩=some (.pointer none):=qg g 0
 have x:w1.cell? ⟨B,1,none⟩=some (.pointer none):=qg g 1
 have o:stOk w1 A 4 32 (zb zz).toArray=true:=qe0 f.at_ (by rw[List.size_toArray,m.len f.len];omega) (by rw[List.size_toArray,qaw];exact qo) (by rw[Array.all_eq_true_iff_forall_mem];intro v q;exact qwd _ v (by simpa using q))
 have l:=qb i
 clear j f i g
 go_wp2_with (with_reducible first|(first|refine' tw1 (qh ?_) ?_|refine' tw2 (qh ?_) ?_);rotate_left|refine' tw3 (qh ?_)|rfl|apply tn|refine' tw4 ?_)
 go_end0
 exact⟨rfl,_,qa l,rfl⟩
theorem q2p(x:Fld)(base A:Nat)(m:MsgV)(v:Value)(w:World)(z:qjn base w v x)(g:MsB w A m)(L:A<base) :
  ∃F y,v = .func (.func F) #[] y∧(∀args w,(callFunc F args).run Tryz.prog w = .ok (.enter F args) w)∧Calls Tryz.prog F (#[qia,.pointer (some ⟨A,0,none⟩)]++y) w fun e w'=>e = .returned (.tuple #[])∧MsB w' A (x.zero m)∧Upd (· = A) w w':=by
 have j:∀(w1:World) (o:Nat) (u:Value) (H:MsgV),qx w w1→m.cells.toArray.setIfInBounds o u=H.cells.toArray→H.hash.length=32→MsB (w1.setCell ⟨A,o,none⟩ u) A H∧Upd (· = A) w (w1.setCell ⟨A,o,none⟩ u):=by
  intro w1 o u H f i l
  have I:=g.new f
  have:=zu I.at_ o u
  rw[i] at this
  exact⟨⟨this,l⟩,(f.mono (fun _ _ h=>h.elim)).set1 o u⟩
 have l:=g.len
 cases x with
 | ch =>
  obtain⟨p,q,rfl,D,E,t,C⟩:=z
  refine⟨_,_,rfl,enters_of Tryz.func134 (by kernel_rfl) rfl,?_⟩
  refine(qx8 120 1 A p q m.ch m w (enters_of Tryz.func120 (by kernel_rfl) rfl) (q9m A) t g rfl).mono ?_
  rintro e w' ⟨i,w1,f,rfl⟩
  exact⟨i,j w1 1 _ _ f (zcy m 0) l⟩
 | id =>
  obtain⟨p,q,rfl,D,E,t,C⟩:=z
  refine⟨_,_,rfl,enters_of Tryz.func115 (by kernel_rfl) rfl,?_⟩
  refine(qn7 96 2 A p q m.id m w (enters_of Tryz.func96 (by kernel_rfl) rfl) (q9i A) t g rfl).mono ?_
  rintro e w' ⟨i,w1,f,rfl⟩
  exact⟨i,j w1 2 _ _ f (zcz m 0) l⟩
 | amount =>
  obtain⟨p,q,rfl,D,E,t,C⟩:=z
  refine⟨_,_,rfl,enters_of Tryz.func115 (by kernel_rfl) rfl,?_⟩
  refine(qn7 97 3 A p q m.amount m w (enters_of Tryz.func97 (by kernel_rfl) rfl) (q9j A) t g rfl).mono ?_
  rintro e w' ⟨i,w1,f,rfl⟩
  exact⟨i,j w1 3 _ _ f (qz5 m 0) l⟩
 | expiry =>
  obtain⟨p,q,rfl,D,E,t,C⟩:=z
  refine⟨_,_,rfl,enters_of Tryz.func118 (by kernel_rfl) rfl,?_⟩
  have J:m.cells[36]? = some (.int .i64 m.expiry):=by
   have:=g.cells.2.2.2.2.1
   rwa [qg g.at_,List.getElem?_toArray] at this
  refine(qn6 99 36 A p q m.expiry m w (enters_of Tryz.func99 (by kernel_rfl) rfl) (q9k A) t g J).mono ?_
  rintro e w' ⟨i,w1,f,rfl⟩
  exact⟨i,j w1 36 _ _ f (qz7 m l 0) l⟩
 | number =>
  obtain⟨p,q,rfl,D,E,t,C⟩:=z
  refine⟨_,_,rfl,enters_of Tryz.func118 (by kernel_rfl) rfl,?_⟩
  have J:m.cells[37]? = some (.int .i64 m.number):=by
   have:=g.cells.2.2.2.2.2.1
   rwa [qg g.at_,List.getElem?_toArray] at this
  refine(qn6 100 37 A p q m.number m w (enters_of Tryz.func100 (by kernel_rfl) rfl) (q9l A) t g J).mono ?_
  rintro e w' ⟨i,w1,f,rfl⟩
  exact⟨i,j w1 37 _ _ f (qz8 m l 0) l⟩
 | hash =>
  have z:v=_:=z
  subst z
  refine⟨_,_,rfl,enters_of Tryz.func102 (by kernel_rfl) rfl,?_⟩
  refine(quz A m w g).mono ?_
  rintro e w' ⟨i,w1,f,rfl⟩
  have I:=g.new f
  have K:=qa1 I.at_ 4 (zb zz)
  rw[q7x m l zz qo] at K
  exact⟨i,⟨K,qo⟩,(f.mono (fun _ _ h=>h.elim)).setCells 4 _⟩
end Go.Proofs.YtjpmomdechibmaaGreatDoor
namespace Go.Proofs.YtjpmomdechibmaaGreatDoor
open Go.RowKit
theorem z6(n:Int)(F:FuncId)(w:World):Calls Tryz.prog 95 #[.int .i64 n,.func (.func F) #[] #[]] w fun e w'=>∃v,e = .returned v∧qx w w'∧qil w.heap.size w' v 115 F n:=by
 go_enter Tryz.func95,Tryz.ntmps95
 go_wp2_with fail
 go_ret
 have f:=qi (w.alloc (.cells #[.int .i64 n] 3)) (.cells #[.func (.func F) #[] #[]] 168)
 rw[World.size_alloc] at f
 exact⟨_,rfl,((Upd.refl _ _).alloc _).alloc _,_,_,rfl,by omega,by omega,by rw[qg f];rfl,by rw[qg (zj (qi _ _) _)];rfl⟩
theorem qah(n:Int)(F:FuncId)(w:World):Calls Tryz.prog 98 #[.int .i64 n,.func (.func F) #[] #[]] w fun e w'=>∃v,e = .returned v∧qx w w'∧qil w.heap.size w' v 118 F n:=by
 go_enter Tryz.func98,Tryz.ntmps98
 go_wp2_with fail
 go_ret
 have f:=qi (w.alloc (.cells #[.int .i64 n] 3)) (.cells #[.func (.func F) #[] #[]] 171)
 rw[World.size_alloc] at f
 exact⟨_,rfl,((Upd.refl _ _).alloc _).alloc _,_,_,rfl,by omega,by omega,by rw[qg f];rfl,by rw[qg (zj (qi _ _) _)];rfl⟩
theorem ql3(n:Int)(F:FuncId)(w:World):Calls Tryz.prog 119 #[.int .i64 n,.func (.func F) #[] #[]] w fun e w'=>∃v,e = .returned v∧qx w w'∧qil w.heap.size w' v 134 F n:=by
 go_enter Tryz.func119,Tryz.ntmps119
 go_wp2_with fail
 go_ret
 have f:=qi (w.alloc (.cells #[.int .i64 n] 3)) (.cells #[.func (.func F) #[] #[]] 194)
 rw[World.size_alloc] at f
 exact⟨_,rfl,((Upd.refl _ _).alloc _).alloc _,_,_,rfl,by omega,by omega,by rw[qg f];rfl,by rw[qg (zj (qi _ _) _)];rfl⟩
theorem qil.later{a b:Nat}{w:World}{v:Value}{f F:FuncId}{n:Int}(h:qil b w v f F n)(ab:a≤b):qil a w v f F n:=by
 obtain⟨p,q,e,g,i,r⟩:=h
 exact⟨p,q,e,by omega,by omega,r⟩
theorem qjn.later{a b:Nat}{w:World}{v:Value}{x:Fld}(h:qjn b w v x)(ab:a≤b):qjn a w v x:=by
 cases x<;>first | exact qil.later h ab | exact h
structure FldsO(base:Nat)(w:World)(v:Value)(xs:List Fld):Prop where
 row:∃vs:List Value,w.ownsRow base 165 1 v xs.length vs∧vs.length=xs.length∧∀(i:Nat) (x:Fld) (u:Value),xs[i]? = some x→vs[i]? = some u→qjn base w u x
theorem Tryz.zeroFld:((Tryz.prog.info? 165).map fun i=>(i.zero.map (·.cells.size),i.size,decide (i.bytes≤1000)))=some (some 1,1,true):=by kernel_rfl
theorem q56:∃i z b,Tryz.prog.info? 165=some i∧i.zero=some z∧i.size=1∧i.bytes=b∧z.cells.size=1∧b≤1000:=by
 have h:=Tryz.zeroFld
 cases j:Tryz.prog.info? 165 with
 | none=>rw[j] at h;cases h
 | some i =>
  rw[j] at h
  simp only[Option.map_some,Option.some.injEq,Prod.mk.injEq] at h
  obtain⟨f,l,m⟩:=h
  cases g:i.zero with
  | none=>rw[g] at f;cases f
  | some z =>
   rw[g] at f
   exact⟨i,z,i.bytes,rfl,g,l,rfl,by simpa using f,of_decide_eq_true m⟩
set_option maxRecDepth 100000 in
set_option maxHeartbeats 1000000 in
theorem qgs(g:Nat)(j:List Value)(w:World)(Z:w.heap[g]? = some (.cells j.toArray 165 (0,0)))(Y:∀v∈j,v.oneCell'=true)(hl:j.length≤100) :
  Calls Tryz.prog 101 #[.slice (some ⟨g,0,none⟩) j.length j.length] w fun e w'=>∃v c,e = .returned (.tuple #[v,.bool true])∧qx w w'∧w'.ownsRow w.heap.size 165 1 v (1+j.length) (c::j)∧qjn w.heap.size w' c .ch:=by
 obtain⟨i9,z9,X,E,L,I,J,K,D⟩:=q56
 have T:=ql3 4 120 w
 go_enter Tryz.func101,Tryz.ntmps101
 go_wp2_with fail
 refine T.mono ?_
 rintro e w1 ⟨c,rfl,C,p,q,rfl,hp,hq,O,P⟩
 clear T
 have lp:=World.block_lt_of_cell? w1 _ O
 have lq:=World.block_lt_of_cell? w1 _ P
 change p<_ at lp
 change q<_ at lq
 obtain⟨c,o⟩:∃c:Value,c = .func (.func 134) #[] #[.pointer (some ⟨p,0,none⟩),.pointer (some ⟨q,0,none⟩)]:=⟨_,rfl⟩
 have y:=qb o
 have l:(w1.alloc (.cells #[c] 165)).ownsRow w.heap.size 165 1 (.slice (some ⟨w1.heap.size,0,none⟩) 1 1) 1 [c] :=
  ⟨rfl,.inr ⟨w1.heap.size,1,#[c],rfl,C.size,qi _ _,Nat.le_refl _,by decide,rfl,rfl⟩⟩
 have t:(w1.alloc (.cells #[c] 165)).heap[g]? = some (.cells j.toArray 165 (0,0)):=(C.alloc (.cells #[c] 165)).old Z (fun h=>h)
 rw[o] at l t
 clear o
 go_wp2_with (at_builtin;refine wpList_append_own _ rfl (.tmp 7) (.tmp 8) 132 rfl w.heap.size 165 i9 _ 1 X Tryz.underlying132 E L I J K (by decide) _ _ _ rfl l ⟨g,0,none⟩ j.length j.length j rfl (by rw[Nat.mul_one]) ?c1 Y ?c3 ?c4 ?c5 ?_)
 case c1=>exact World.news_of_block (cs:=j.toArray) (fr:=(0,0)) t
 case c3=>unfold maxLen;omega
 case c4=>have:=Nat.mul_le_mul (show 1+j.length≤101 by omega) D;omega
 case c5=>have:=C.size;rw[World.size_alloc];omega
 intro v' N i f _
 obtain⟨wa,x⟩:∃wa:World,wa=w1.alloc (.cells #[.func (.func 134) #[] #[.pointer (some ⟨p,0,none⟩),.pointer (some ⟨q,0,none⟩)]] 165):=⟨_,rfl⟩
 have m:qx w1 wa:=by rw[x];exact(Upd.refl _ _).alloc _
 rw[←x] at f
 have R:qx w N:=(C.trans m).grown f (fun k F H=>by
  simp only[Value.ownBlock,Option.some.injEq] at F
  have:=C.size
  omega)
 have M:Upd (fun k=>k=w1.heap.size) wa N:=(Upd.refl _ _).grown f (fun k F H=>by
  simp only[Value.ownBlock,Option.some.injEq] at F
  omega)
 have z:qjn w.heap.size N c .ch:=by
  exact⟨p,q,qa y,hp,hq,M.cell (m.cell O (fun h=>h)) (by show ¬p=_;omega),M.cell (m.cell P (fun h=>h)) (by show ¬q=_;omega)⟩
 rw[←qa y] at i
 have W:=qb i
 have U:=qb z
 have V:=qb R
 clear i f z R M l t m x
 go_wp2_with fail
 go_ret2
 exact⟨_,c,rfl,qa V,qa W,qa U⟩
set_option maxRecDepth 100000 in
set_option maxHeartbeats 1000000 in
theorem qr7(w:World) :
  Calls Tryz.prog 101 #[.slice none 0 0] w fun e w'=>∃v c,e = .returned (.tuple #[v,.bool true])∧qx w w'∧w'.ownsRow w.heap.size 165 1 v 1 [c]∧qjn w.heap.size w' c .ch:=by
 have g:=ql3 4 120 w
 go_enter Tryz.func101,Tryz.ntmps101
 go_wp2_with fail
 refine g.mono ?_
 rintro e w1 ⟨c,rfl,i,p,q,rfl,m,o,j,l⟩
 clear g
 go_wp2_with fail
 go_ret2
 have f:qx w1 (w1.alloc (.cells #[.func (.func 134) #[] #[.pointer (some ⟨p,0,none⟩),.pointer (some ⟨q,0,none⟩)]] 165)):=(Upd.refl _ _).alloc _
 exact⟨_,_,rfl,i.trans f,⟨rfl,.inr ⟨w1.heap.size,1,_,rfl,i.size,qi _ _,Nat.le_refl _,by decide,rfl,rfl⟩⟩,⟨p,q,rfl,m,o,f.cell j (fun h=>h),f.cell l (fun h=>h)⟩⟩
end Go.Proofs.YtjpmomdechibmaaGreatDoor
