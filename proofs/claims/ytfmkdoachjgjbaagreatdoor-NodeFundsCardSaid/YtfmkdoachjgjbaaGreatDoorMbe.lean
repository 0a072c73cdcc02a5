/-
  Fields of messages: what sets each to 0.
-/
import Derived.Test.YtfmkdoachjgjbaaGreatDoorMbb
import Derived.Test.YtfmkdoachjgjbaaGreatDoorMbd
set_option maxRecDepth 100000
set_option maxHeartbeats 1000000
set_option linter.unusedVariables false
set_option linter.unusedSimpArgs false
namespace Go.Proofs.YtfmkdoachjgjbaaGreatDoor
section
open Go.RowKit
inductive Fld where
 | ch
 | id
 | amount
 | hash
 | expiry
 | number
def Fld.zero(x:Fld)(m:MsgV):MsgV :=
 match x with
 | .ch=> {m with ch:=0}
 | .id=> {m with id:=0}
 | .amount=> {m with amount:=0}
 | .hash=> {m with hash:=zm}
 | .expiry=> {m with expiry:=0}
 | .number=> {m with number:=0}
def qgr(base:Nat)(w:World)(v:Value)(f F:FuncId)(n:Int):Prop :=
 ∃p q,v = .func (.func f) #[] #[.pointer (some ⟨p,0,none⟩),.pointer (some ⟨q,0,none⟩)]∧base≤p∧base≤q∧w.cell? ⟨p,0,none⟩=some (.func (.func F) #[] #[])∧w.cell? ⟨q,0,none⟩=some (.int .i64 n)
def qfu(base:Nat)(w:World)(v:Value)(x:Fld):Prop :=
 match x with
 | .ch=>qgr base w v 214 203 4
 | .id=>qgr base w v 200 169 8
 | .amount=>qgr base w v 200 170 8
 | .hash=>v = .func (.func 175) #[] #[]
 | .expiry=>qgr base w v 201 172 4
 | .number=>qgr base w v 201 173 2
theorem qgr.upd{base:Nat}{w w':World}{v:Value}{f F:FuncId}{n:Int}{S:Nat→Prop}(h:qgr base w v f F n)(u:Upd S w w')(i:∀k,base≤k→¬S k):qgr base w' v f F n:=by
 obtain⟨p,q,e,m,o,t,x⟩:=h;exact⟨p,q,e,m,o,u.cell t (i p m),u.cell x (i q o)⟩
theorem qfu.upd{base:Nat}{w w':World}{v:Value}{x:Fld}{S:Nat→Prop}(h:qfu base w v x)(u:Upd S w w')(i:∀k,base≤k→¬S k):qfu base w' v x:=by
 cases x<;>first | exact qgr.upd h u i | exact h
theorem qfu.new{base:Nat}{w w':World}{v:Value}{x:Fld}(h:qfu base w v x)(u:qq w w'):qfu base w' v x:=h.upd u (fun _ _ h=>h)
theorem qgr.one{base:Nat}{w:World}{v:Value}{f F:FuncId}{n:Int}(h:qgr base w v f F n):v.oneCell'=true:=by
 obtain⟨p,q,rfl,_⟩:=h;rfl
theorem qfu.one{base:Nat}{w:World}{v:Value}{x:Fld}(h:qfu base w v x):v.oneCell'=true:=by
 cases x<;>first | exact qgr.one h | (have h:v=_:=h;rw[h];rfl)
theorem q5i(m:MsgV)(n:Int):m.cells.toArray.setIfInBounds 1 (.int .u32 n)=({m with ch:=n} : MsgV).cells.toArray:=rfl
theorem q5j(m:MsgV)(n:Int):m.cells.toArray.setIfInBounds 2 (.int .u64 n)=({m with id:=n} : MsgV).cells.toArray:=rfl
theorem qof(m:MsgV)(n:Int):m.cells.toArray.setIfInBounds 3 (.int .u64 n)=({m with amount:=n} : MsgV).cells.toArray:=rfl
theorem qub(m:MsgV)(h:m.hash.length=32):m.cells=(.int .i64 m.kind :: .int .u32 m.ch :: .int .u64 m.id :: .int .u64 m.amount::qw m.hash)++[.int .i64 m.expiry,.int .i64 m.number]:=rfl
theorem qog(m:MsgV)(h:m.hash.length=32)(n:Int):m.cells.toArray.setIfInBounds 36 (.int .i64 n)=({m with expiry:=n} : MsgV).cells.toArray:=by
 rw[List.setIfInBounds_toArray,qub m h,List.set_append_right _ _ (by simp[qw,h])];congr 1;show _=(.int .i64 m.kind :: .int .u32 m.ch :: .int .u64 m.id :: .int .u64 m.amount::qw m.hash)++[.int .i64 n,.int .i64 m.number];simp[qw,h]
theorem qoi(m:MsgV)(h:m.hash.length=32)(n:Int):m.cells.toArray.setIfInBounds 37 (.int .i64 n)=({m with number:=n} : MsgV).cells.toArray:=by
 rw[List.setIfInBounds_toArray,qub m h,List.set_append_right _ _ (by simp[qw,h])];congr 1;show _=(.int .i64 m.kind :: .int .u32 m.ch :: .int .u64 m.id :: .int .u64 m.amount::qw m.hash)++[.int .i64 m.expiry,.int .i64 n];simp[qw,h]
theorem qut(m:MsgV)(h:m.hash.length=32)(k:List Int)(i:k.length=32):qhz m.cells.toArray 4 (qw k)=({m with hash:=k} : MsgV).cells.toArray :=
 qp1 [.int .i64 m.kind,.int .u32 m.ch,.int .u64 m.id,.int .u64 m.amount] (qw m.hash) [.int .i64 m.expiry,.int .i64 m.number] (qw k) 4 rfl (by rw[qal,qal,h,i])
attribute [local go_sem ↓ high] zl qaf qah qa1
attribute [local go_sem] qa9 qb3 qb7 qdp qy
theorem qmg(A:Nat)(w:World):Calls Tryz.prog 169 #[.pointer (some ⟨A,0,none⟩)] w (qae (.pointer (some ⟨A,2,none⟩)) w):=by
 go_enter Tryz.func169,Tryz.ntmps169;go_wp2_with fail;go_ret;exact⟨rfl,Q.refl _⟩
theorem qmh(A:Nat)(w:World):Calls Tryz.prog 170 #[.pointer (some ⟨A,0,none⟩)] w (qae (.pointer (some ⟨A,3,none⟩)) w):=by
 go_enter Tryz.func170,Tryz.ntmps170;go_wp2_with fail;go_ret;exact⟨rfl,Q.refl _⟩
theorem qmi(A:Nat)(w:World):Calls Tryz.prog 172 #[.pointer (some ⟨A,0,none⟩)] w (qae (.pointer (some ⟨A,36,none⟩)) w):=by
 go_enter Tryz.func172,Tryz.ntmps172;go_wp2_with fail;go_ret;exact⟨rfl,Q.refl _⟩
theorem qmj(A:Nat)(w:World):Calls Tryz.prog 173 #[.pointer (some ⟨A,0,none⟩)] w (qae (.pointer (some ⟨A,37,none⟩)) w):=by
 go_enter Tryz.func173,Tryz.ntmps173;go_wp2_with fail;go_ret;exact⟨rfl,Q.refl _⟩
theorem qmk(A:Nat)(w:World):Calls Tryz.prog 203 #[.pointer (some ⟨A,0,none⟩)] w (qae (.pointer (some ⟨A,1,none⟩)) w):=by
 go_enter Tryz.func203,Tryz.ntmps203;go_wp2_with fail;go_ret;exact⟨rfl,Q.refl _⟩
def qgj:Value:= .agg #[.pointer none,.pointer none]
theorem ql1(F:FuncId)(o A p q:Nat)(x:Int)(m:MsgV)(w:World)(U:∀args w,(callFunc F args).run Tryz.prog w = .ok (.enter F args) w)(M:∀w,Calls Tryz.prog F #[.pointer (some ⟨A,0,none⟩)] w (qae (.pointer (some ⟨A,o,none⟩)) w))(H:w.cell? ⟨p,0,none⟩=some (.func (.func F) #[] #[]))(E:MsB w A m)(N:m.cells[o]? = some (.int .u64 x)) :
  Calls Tryz.prog 200 #[qgj,.pointer (some ⟨A,0,none⟩),.pointer (some ⟨p,0,none⟩),.pointer (some ⟨q,0,none⟩)] w fun e w'=>e = .returned (.tuple #[])∧∃w1,qq w w1∧w'=w1.setCell ⟨A,o,none⟩ (.int .u64 0):=by
 unfold qgj
 go_enter Tryz.func200,Tryz.ntmps200
 go_upto_region 1 with fail
 have t:qq w (w.alloc (.cells #[.pointer none,.pointer none] 234)):=(Upd.refl _ _).alloc _
 have z:=ql w (.cells #[.pointer none,.pointer none] 234)
 generalize w.alloc (.cells #[.pointer none,.pointer none] 234)=w1 at t z ⊢
 generalize w.heap.size=B at z ⊢
 have D:=t.cell H (fun h=>h)
 have J:=qj (E.new t)
 have C:=qj z
 clear z H E
 go_wp2_with fail
 refine(M w1).mono ?_
 rintro e y ⟨rfl,v⟩
 have I:qq w y:=t.trans (v.upd _)
 have i:=(qg J).new (v.upd _)
 have P:y.cell? ⟨B,0,none⟩=some (.pointer none):=v.cell (qk (qg C) 0)
 have R:y.cell? ⟨B,1,none⟩=some (.pointer none):=v.cell (qk (qg C) 1)
 have O:y.cell? ⟨A,o,none⟩=some (.int .u64 x):=by rw[qk i.at_,List.getElem?_toArray];exact N
 have T:y.frozen? ⟨A,o,none⟩=false:=qo i.at_ o
 have K:=qj I
 clear i v I t D C
 go_wp2_with ((with_reducible first|rfl|refine' ut ?_ ?_;rotate_left|refine' uu ?_)<;>intros)
 go_end0
 exact⟨rfl,_,qg K,rfl⟩
theorem ql0(F:FuncId)(o A p q:Nat)(x:Int)(m:MsgV)(w:World)(U:∀args w,(callFunc F args).run Tryz.prog w = .ok (.enter F args) w)(M:∀w,Calls Tryz.prog F #[.pointer (some ⟨A,0,none⟩)] w (qae (.pointer (some ⟨A,o,none⟩)) w))(H:w.cell? ⟨p,0,none⟩=some (.func (.func F) #[] #[]))(E:MsB w A m)(N:m.cells[o]? = some (.int .i64 x)) :
  Calls Tryz.prog 201 #[qgj,.pointer (some ⟨A,0,none⟩),.pointer (some ⟨p,0,none⟩),.pointer (some ⟨q,0,none⟩)] w fun e w'=>e = .returned (.tuple #[])∧∃w1,qq w w1∧w'=w1.setCell ⟨A,o,none⟩ (.int .i64 0):=by
 unfold qgj
 go_enter Tryz.func201,Tryz.ntmps201
 go_upto_region 1 with fail
 have t:qq w (w.alloc (.cells #[.pointer none,.pointer none] 234)):=(Upd.refl _ _).alloc _
 have z:=ql w (.cells #[.pointer none,.pointer none] 234)
 generalize w.alloc (.cells #[.pointer none,.pointer none] 234)=w1 at t z ⊢
 generalize w.heap.size=B at z ⊢
 have D:=t.cell H (fun h=>h)
 have J:=qj (E.new t)
 have C:=qj z
 clear z H E
 go_wp2_with fail
 refine(M w1).mono ?_
 rintro e y ⟨rfl,v⟩
 have I:qq w y:=t.trans (v.upd _)
 have i:=(qg J).new (v.upd _)
 have P:y.cell? ⟨B,0,none⟩=some (.pointer none):=v.cell (qk (qg C) 0)
 have R:y.cell? ⟨B,1,none⟩=some (.pointer none):=v.cell (qk (qg C) 1)
 have O:y.cell? ⟨A,o,none⟩=some (.int .i64 x):=by rw[qk i.at_,List.getElem?_toArray];exact N
 have T:y.frozen? ⟨A,o,none⟩=false:=qo i.at_ o
 have K:=qj I
 clear i v I t D C
 go_wp2_with ((with_reducible first|rfl|refine' ut ?_ ?_;rotate_left|refine' uu ?_)<;>intros)
 go_end0
 exact⟨rfl,_,qg K,rfl⟩
theorem qu9(F:FuncId)(o A p q:Nat)(x:Int)(m:MsgV)(w:World)(U:∀args w,(callFunc F args).run Tryz.prog w = .ok (.enter F args) w)(M:∀w,Calls Tryz.prog F #[.pointer (some ⟨A,0,none⟩)] w (qae (.pointer (some ⟨A,o,none⟩)) w))(H:w.cell? ⟨p,0,none⟩=some (.func (.func F) #[] #[]))(E:MsB w A m)(N:m.cells[o]? = some (.int .u32 x)) :
  Calls Tryz.prog 214 #[qgj,.pointer (some ⟨A,0,none⟩),.pointer (some ⟨p,0,none⟩),.pointer (some ⟨q,0,none⟩)] w fun e w'=>e = .returned (.tuple #[])∧∃w1,qq w w1∧w'=w1.setCell ⟨A,o,none⟩ (.int .u32 0):=by
 unfold qgj
 go_enter Tryz.func214,Tryz.ntmps214
 go_upto_region 1 with fail
 have t:qq w (w.alloc (.cells #[.pointer none,.pointer none] 234)):=(Upd.refl _ _).alloc _
 have z:=ql w (.cells #[.pointer none,.pointer none] 234)
 generalize w.alloc (.cells #[.pointer none,.pointer none] 234)=w1 at t z ⊢
 generalize w.heap.size=B at z ⊢
 have D:=t.cell H (fun h=>h)
 have J:=qj (E.new t)
 have C:=qj z
 clear z H E
 go_wp2_with fail
 refine(M w1).mono ?_
 rintro e y ⟨rfl,v⟩
 have I:qq w y:=t.trans (v.upd _)
 have i:=(qg J).new (v.upd _)
 have P:y.cell? ⟨B,0,none⟩=some (.pointer none):=v.cell (qk (qg C) 0)
 have R:y.cell? ⟨B,1,none⟩=some (.pointer none):=v.cell (qk (qg C) 1)
 have O:y.cell? ⟨A,o,none⟩=some (.int .u32 x):=by rw[qk i.at_,List.getElem?_toArray];exact N
 have T:y.frozen? ⟨A,o,none⟩=false:=qo i.at_ o
 have K:=qj I
 clear i v I t D C
 go_wp2_with ((with_reducible first|rfl|refine' ut ?_ ?_;rotate_left|refine' uu ?_)<;>intros)
 go_end0
 exact⟨rfl,_,qg K,rfl⟩
theorem qst(A:Nat)(m:MsgV)(w:World)(t:MsB w A m) :
  Calls Tryz.prog 175 #[qgj,.pointer (some ⟨A,0,none⟩)] w fun e w'=>e = .returned (.tuple #[])∧∃w1,qq w w1∧w'=w1.setCells A 4 (qw zm):=by
 unfold qgj
 go_enter Tryz.func175,Tryz.ntmps175
 go_upto_region 2 with fail
 have q:qq w (w.alloc (.cells #[.pointer none,.pointer none] 234)):=(Upd.refl _ _).alloc _
 have o:=ql w (.cells #[.pointer none,.pointer none] 234)
 generalize w.alloc (.cells #[.pointer none,.pointer none] 234)=w1 at q o ⊢
 generalize w.heap.size=B at o ⊢
 have i:=t.new q
 have C:w1.cell? ⟨B,0,none⟩=some (.pointer none):=qk o 0
 have D:w1.cell? ⟨B,1,none⟩=some (.pointer none):=qk o 1
 have y:stOk w1 A 4 32 (qw zm).toArray=true:=qd4 i.at_ (by rw[List.size_toArray,m.len i.len];omega) (by rw[List.size_toArray,qal];exact qu) (by rw[Array.all_eq_true_iff_forall_mem];intro v z;exact qnl _ v (by simpa using z))
 have x:=qj q
 clear t i q o
 go_wp2_with ((with_reducible first|rfl|refine' ut ?_ ?_;rotate_left|refine' uu ?_)<;>intros)
 go_end0
 exact⟨rfl,_,qg x,rfl⟩
theorem qzq(x:Fld)(base A:Nat)(m:MsgV)(v:Value)(w:World)(H:qfu base w v x)(t:MsB w A m)(R:A<base) :
  ∃F E,v = .func (.func F) #[] E∧(∀args w,(callFunc F args).run Tryz.prog w = .ok (.enter F args) w)∧Calls Tryz.prog F (#[qgj,.pointer (some ⟨A,0,none⟩)]++E) w fun e w'=>e = .returned (.tuple #[])∧MsB w' A (x.zero m)∧Upd (· = A) w w':=by
 have z:∀(w1:World) (o:Nat) (u:Value) (M:MsgV),qq w w1→m.cells.toArray.setIfInBounds o u=M.cells.toArray→M.hash.length=32→MsB (w1.setCell ⟨A,o,none⟩ u) A M∧Upd (· = A) w (w1.setCell ⟨A,o,none⟩ u):=by
  intro w1 o u M i y C;have N:=t.new i;have:=zq N.at_ o u;rw[y] at this;exact⟨⟨this,C⟩,(i.mono (fun _ _ h=>h.elim)).set1 o u⟩
 have C:=t.len
 cases x with
 | ch =>
  obtain⟨p,q,rfl,J,K,D,I⟩:=H;refine⟨_,_,rfl,enters_of Tryz.func214 (by kernel_rfl) rfl,?_⟩;refine(qu9 203 1 A p q m.ch m w (enters_of Tryz.func203 (by kernel_rfl) rfl) (qmk A) D t rfl).mono ?_;rintro e w' ⟨y,w1,i,rfl⟩;exact⟨y,z w1 1 _ _ i (q5i m 0) C⟩
 | id =>
  obtain⟨p,q,rfl,J,K,D,I⟩:=H;refine⟨_,_,rfl,enters_of Tryz.func200 (by kernel_rfl) rfl,?_⟩;refine(ql1 169 2 A p q m.id m w (enters_of Tryz.func169 (by kernel_rfl) rfl) (qmg A) D t rfl).mono ?_;rintro e w' ⟨y,w1,i,rfl⟩;exact⟨y,z w1 2 _ _ i (q5j m 0) C⟩
 | amount =>
  obtain⟨p,q,rfl,J,K,D,I⟩:=H;refine⟨_,_,rfl,enters_of Tryz.func200 (by kernel_rfl) rfl,?_⟩;refine(ql1 170 3 A p q m.amount m w (enters_of Tryz.func170 (by kernel_rfl) rfl) (qmh A) D t rfl).mono ?_;rintro e w' ⟨y,w1,i,rfl⟩;exact⟨y,z w1 3 _ _ i (qof m 0) C⟩
 | expiry =>
  obtain⟨p,q,rfl,J,K,D,I⟩:=H;refine⟨_,_,rfl,enters_of Tryz.func201 (by kernel_rfl) rfl,?_⟩;have O:m.cells[36]? = some (.int .i64 m.expiry):=by
   have:=t.cells.2.2.2.2.1;rwa [qk t.at_,List.getElem?_toArray] at this
  refine(ql0 172 36 A p q m.expiry m w (enters_of Tryz.func172 (by kernel_rfl) rfl) (qmi A) D t O).mono ?_;rintro e w' ⟨y,w1,i,rfl⟩;exact⟨y,z w1 36 _ _ i (qog m C 0) C⟩
 | number =>
  obtain⟨p,q,rfl,J,K,D,I⟩:=H;refine⟨_,_,rfl,enters_of Tryz.func201 (by kernel_rfl) rfl,?_⟩;have O:m.cells[37]? = some (.int .i64 m.number):=by
   have:=t.cells.2.2.2.2.2.1;rwa [qk t.at_,List.getElem?_toArray] at this
  refine(ql0 173 37 A p q m.number m w (enters_of Tryz.func173 (by kernel_rfl) rfl) (qmj A) D t O).mono ?_;rintro e w' ⟨y,w1,i,rfl⟩;exact⟨y,z w1 37 _ _ i (qoi m C 0) C⟩
 | hash =>
  have H:v=_:=H;subst H;refine⟨_,_,rfl,enters_of Tryz.func175 (by kernel_rfl) rfl,?_⟩;refine(qst A m w t).mono ?_;rintro e w' ⟨y,w1,i,rfl⟩;have N:=t.new i;have P:=qax N.at_ 4 (qw zm);rw[qut m C zm qu] at P;exact⟨y,⟨P,qu⟩,(i.mono (fun _ _ h=>h.elim)).setCells 4 _⟩
end
section
open Go.RowKit
theorem qai(n:Int)(F:FuncId)(w:World):Calls Tryz.prog 168 #[.int .i64 n,.func (.func F) #[] #[]] w fun e w'=>∃v,e = .returned v∧qq w w'∧qgr w.heap.size w' v 200 F n:=by
 go_enter Tryz.func168,Tryz.ntmps168;go_wp2_with fail;go_ret;have i:=ql (w.alloc (.cells #[.int .i64 n] 3)) (.cells #[.func (.func F) #[] #[]] 274);rw[World.size_alloc] at i;exact⟨_,rfl,((Upd.refl _ _).alloc _).alloc _,_,_,rfl,by omega,by omega,by rw[qk i];rfl,by rw[qk (qx (ql _ _) _)];rfl⟩
theorem qan(n:Int)(F:FuncId)(w:World):Calls Tryz.prog 171 #[.int .i64 n,.func (.func F) #[] #[]] w fun e w'=>∃v,e = .returned v∧qq w w'∧qgr w.heap.size w' v 201 F n:=by
 go_enter Tryz.func171,Tryz.ntmps171;go_wp2_with fail;go_ret;have i:=ql (w.alloc (.cells #[.int .i64 n] 3)) (.cells #[.func (.func F) #[] #[]] 277);rw[World.size_alloc] at i;exact⟨_,rfl,((Upd.refl _ _).alloc _).alloc _,_,_,rfl,by omega,by omega,by rw[qk i];rfl,by rw[qk (qx (ql _ _) _)];rfl⟩
theorem qjo(n:Int)(F:FuncId)(w:World):Calls Tryz.prog 202 #[.int .i64 n,.func (.func F) #[] #[]] w fun e w'=>∃v,e = .returned v∧qq w w'∧qgr w.heap.size w' v 214 F n:=by
 go_enter Tryz.func202,Tryz.ntmps202;go_wp2_with fail;go_ret;have i:=ql (w.alloc (.cells #[.int .i64 n] 3)) (.cells #[.func (.func F) #[] #[]] 299);rw[World.size_alloc] at i;exact⟨_,rfl,((Upd.refl _ _).alloc _).alloc _,_,_,rfl,by omega,by omega,by rw[qk i];rfl,by rw[qk (qx (ql _ _) _)];rfl⟩
theorem qgr.later{a b:Nat}{w:World}{v:Value}{f F:FuncId}{n:Int}(h:qgr b w v f F n)(ab:a≤b):qgr a w v f F n:=by
 obtain⟨p,q,e,i,m,r⟩:=h;exact⟨p,q,e,by omega,by omega,r⟩
theorem qfu.later{a b:Nat}{w:World}{v:Value}{x:Fld}(h:qfu b w v x)(ab:a≤b):qfu a w v x:=by
 cases x<;>first | exact qgr.later h ab | exact h
structure FldsO(base:Nat)(w:World)(v:Value)(xs:List Fld):Prop where
 row:∃vs:List Value,w.ownsRow base 271 1 v xs.length vs∧vs.length=xs.length∧∀(i:Nat) (x:Fld) (u:Value),xs[i]? = some x→vs[i]? = some u→qfu base w u x
theorem Tryz.zeroFld:((Tryz.prog.info? 271).map fun i=>(i.zero.map (·.cells.size),i.size,decide (i.bytes≤1000)))=some (some 1,1,true):=by kernel_rfl
theorem q3t:∃i z b,Tryz.prog.info? 271=some i∧i.zero=some z∧i.size=1∧i.bytes=b∧z.cells.size=1∧b≤1000:=by
 have h:=Tryz.zeroFld;cases q:Tryz.prog.info? 271 with
 | none=>rw[q] at h;cases h
 | some i =>
  rw[q] at h;simp only[Option.map_some,Option.some.injEq,Prod.mk.injEq] at h;obtain⟨m,t,v⟩:=h;cases o:i.zero with
  | none=>rw[o] at m;cases m
  | some z =>
   rw[o] at m;exact⟨i,z,i.bytes,rfl,o,t,rfl,by simpa using m,of_decide_eq_true v⟩
theorem qfa(g:Nat)(o:List Value)(w:World)(hg:w.heap[g]? = some (.cells o.toArray 271 (0,0)))(h1:∀v∈o,v.oneCell'=true)(hl:o.length≤100) :
  Calls Tryz.prog 174 #[.slice (some ⟨g,0,none⟩) o.length o.length] w fun e w'=>∃v c,e = .returned (.tuple #[v,.bool true])∧qq w w'∧w'.ownsRow w.heap.size 271 1 v (1+o.length) (c::o)∧qfu w.heap.size w' c .ch:=by
 obtain⟨i9,z9,b9,K,T,O,P,R,J⟩:=q3t
 have Z:=qjo 4 203 w
 go_enter Tryz.func174,Tryz.ntmps174
 go_wp2_with fail
 refine Z.mono ?_
 rintro e w1 ⟨c,rfl,H,p,q,rfl,hp,hq,W,X⟩
 clear Z
 have lp:=World.block_lt_of_cell? w1 _ W
 have lq:=World.block_lt_of_cell? w1 _ X
 change p<_ at lp
 change q<_ at lq
 obtain⟨c,y⟩:∃c:Value,c = .func (.func 214) #[] #[.pointer (some ⟨p,0,none⟩),.pointer (some ⟨q,0,none⟩)]:=⟨_,rfl⟩
 have D:=qj y
 have t:(w1.alloc (.cells #[c] 271)).ownsRow w.heap.size 271 1 (.slice (some ⟨w1.heap.size,0,none⟩) 1 1) 1 [c] :=
  ⟨rfl,.inr ⟨w1.heap.size,1,#[c],rfl,H.size,ql _ _,Nat.le_refl _,by decide,rfl,rfl⟩⟩
 have z:(w1.alloc (.cells #[c] 271)).heap[g]? = some (.cells o.toArray 271 (0,0)):=(H.alloc (.cells #[c] 271)).old hg (fun h=>h)
 rw[y] at t z
 clear y
 go_wp2_with (at_builtin;refine wpList_append_own _ rfl (.tmp 7) (.tmp 8) 226 rfl w.heap.size 271 i9 _ 1 b9 Tryz.underlying226 K T O P R (by decide) _ _ _ rfl t ⟨g,0,none⟩ o.length o.length o rfl (by rw[Nat.mul_one]) ?c1 h1 ?c3 ?c4 ?c5 ?_)
 case c1=>exact World.news_of_block (cs:=o.toArray) (fr:=(0,0)) z
 case c3=>unfold maxLen;omega
 case c4=>have:=Nat.mul_le_mul (show 1+o.length≤101 by omega) J;omega
 case c5=>have:=H.size;rw[World.size_alloc];omega
 intro v' V m i _
 obtain⟨I,C⟩:∃I:World,I=w1.alloc (.cells #[.func (.func 214) #[] #[.pointer (some ⟨p,0,none⟩),.pointer (some ⟨q,0,none⟩)]] 271):=⟨_,rfl⟩
 have x:qq w1 I:=by rw[C];exact(Upd.refl _ _).alloc _
 rw[←C] at i
 have Y:qq w V:=(H.trans x).grown i (fun k M N=>by
  simp only[Value.ownBlock,Option.some.injEq] at M;have:=H.size;omega)
 have U:Upd (fun k=>k=w1.heap.size) I V:=(Upd.refl _ _).grown i (fun k M N=>by
  simp only[Value.ownBlock,Option.some.injEq] at M;omega)
 have E:qfu w.heap.size V c .ch:=by
  exact⟨p,q,qg D,hp,hq,U.cell (x.cell W (fun h=>h)) (by show ¬p=_;omega),U.cell (x.cell X (fun h=>h)) (by show ¬q=_;omega)⟩
 rw[←qg D] at m
 have HO:=qj m
 have HC:=qj E
 have HN:=qj Y
 clear m i E Y U t z x C
 go_wp2_with fail
 go_ret2
 exact⟨_,c,rfl,qg HN,qg HO,qg HC⟩
theorem qp2(w:World) :
  Calls Tryz.prog 174 #[.slice none 0 0] w fun e w'=>∃v c,e = .returned (.tuple #[v,.bool true])∧qq w w'∧w'.ownsRow w.heap.size 271 1 v 1 [c]∧qfu w.heap.size w' c .ch:=by
 have m:=qjo 4 203 w
 go_enter Tryz.func174,Tryz.ntmps174
 go_wp2_with fail
 refine m.mono ?_
 rintro e w1 ⟨c,rfl,o,p,q,rfl,y,z,t,x⟩
 clear m
 go_wp2_with fail
 go_ret2
 have i:qq w1 (w1.alloc (.cells #[.func (.func 214) #[] #[.pointer (some ⟨p,0,none⟩),.pointer (some ⟨q,0,none⟩)]] 271)):=(Upd.refl _ _).alloc _
 exact⟨_,_,rfl,o.trans i,⟨rfl,.inr ⟨w1.heap.size,1,_,rfl,o.size,ql _ _,Nat.le_refl _,by decide,rfl,rfl⟩⟩,⟨p,q,rfl,y,z,i.cell t (fun h=>h),i.cell x (fun h=>h)⟩⟩
end
end Go.Proofs.YtfmkdoachjgjbaaGreatDoor
