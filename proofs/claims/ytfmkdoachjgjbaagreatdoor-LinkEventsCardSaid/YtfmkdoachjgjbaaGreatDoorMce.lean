/-
  Fields of messages, written (printed by tools/mk_wrt.py).
-/
import Derived.Test.YtfmkdoachjgjbaaGreatDoorMbh
import Derived.Test.YtfmkdoachjgjbaaGreatDoorMad
import Derived.Defers
import Derived.Recover
import Derived.Test.YtfmkdoachjgjbaaGreatDoorRows
import Derived.Test.YtfmkdoachjgjbaaGreatDoorMaa
import Derived.Test.YtfmkdoachjgjbaaGreatDoorMcd
set_option linter.unusedVariables false
set_option linter.unusedSimpArgs false
namespace Go.Proofs.YtfmkdoachjgjbaaGreatDoor
open Go.RowKit
def Fld.put(x:Fld)(m:MsgV):ByteArray :=
 match x with
 | .ch=>qx m.ch.toNat 4
 | .id=>qx m.id.toNat 8
 | .amount=>qx m.amount.toNat 8
 | .hash=>strOfNums m.hash
 | .expiry=>qx m.expiry.toNat 4
 | .number=>qx m.number.toNat 2
theorem Fld.put_size(x:Fld)(m:MsgV)(h:m.hash.length=32):(x.put m).size≤32:=by
 cases x
 case hash=>show (strOfNums m.hash).size≤32;rw[strOfNums_size,h];exact Nat.le_refl _
 all_goals (unfold Fld.put;simp only[qaq];decide)
def qen(xs:List Fld)(m:MsgV)(s:ByteArray):ByteArray:=xs.foldl (fun s x=>s++x.put m) s
theorem q2a{xs:List Fld}{i:Nat}{x:Fld}(h:xs[i]? = some x)(m:MsgV)(s:ByteArray):qen (xs.take (i+1)) m s=qen (xs.take i) m s++x.put m:=by
 unfold qen;rw[List.take_add_one,h,List.foldl_append];rfl
theorem qjl(m:MsgV)(h:m.hash.length=32):∀(xs:List Fld) (s:ByteArray),(qen xs m s).size≤s.size+32*xs.length
 | [],s=>Nat.le_refl _
 | x::xs,s=>by
  have f:=qjl m h xs (s++x.put m);have i:=x.put_size m h;have e:qen (x::xs) m s=qen xs m (s++x.put m):=rfl;rw[ByteArray.size_append] at f;rw[e,List.length_cons];omega
def qg7(W:Nat):Value:= .agg #[.pointer (some ⟨W,0,none⟩),.pointer none]
set_option maxHeartbeats 1000000 in
theorem qev(w:World):Calls Tryz.prog 135 #[.int .i64 0] w (qa0 (.tuple #[]) w):=by
 go_enter Tryz.func135,Tryz.ntmps135;go_wp2_with fail;go_end0;exact⟨rfl,Q.refl _⟩
attribute [local go_sem ↓ high] zq qad qag qan
attribute [local go_sem] qbi qch qck qdg qw
set_option maxRecDepth 100000 in
set_option maxHeartbeats 1000000 in
theorem qov(F:FuncId)(o A p q W n:Nat)(x:Nat)(m:MsgV)(s:ByteArray)(w:World)(hE:∀args w,(callFunc F args).run Tryz.prog w = .ok (.enter F args) w)(hF:∀w,Calls Tryz.prog F #[.pointer (some ⟨A,0,none⟩)] w (qa0 (.pointer (some ⟨A,o,none⟩)) w))(X:w.cell? ⟨p,0,none⟩=some (.func (.func F) #[] #[]))(Y:w.cell? ⟨q,0,none⟩=some (.int .i64 (n:Int)))(T:MsB w A m)(ho:m.cells[o]? = some (.int .u64 (x:Int)))(U:Wr w W s)(V:1≤n∧n≤8)(hx:x<2 ^ (8*n))(a8:x<18446744073709551616)(hs:s.size≤1073741824) :
  Calls Tryz.prog 200 #[qg7 W,.pointer (some ⟨A,0,none⟩),.pointer (some ⟨p,0,none⟩),.pointer (some ⟨q,0,none⟩)] w fun e w'=>e = .returned (.tuple #[])∧Upd (fun k=>k=W) w w'∧Wr w' W (s++qx x n):=by
 unfold qg7
 have b3:(x:Int)<18446744073709551616:=by omega
 have a7:IntKind.u64.wrap (x:Int)=x:=qgi (by omega) (by omega)
 go_enter Tryz.func200,Tryz.ntmps200
 go_upto_region 1 with fail
 have i:qq w (w.alloc (.cells #[.pointer (some ⟨W,0,none⟩),.pointer none] 234)):=(Upd.refl _ _).alloc _
 have J:=qj w (.cells #[.pointer (some ⟨W,0,none⟩),.pointer none] 234)
 generalize w.alloc (.cells #[.pointer (some ⟨W,0,none⟩),.pointer none] 234)=w1 at i J ⊢
 generalize w.heap.size=B at J ⊢
 have M:=i.cell X (fun h=>h)
 have I:=i.cell Y (fun h=>h)
 have O:=qb (T.new i)
 have L:=qb J
 have z:=qb (U.new i)
 have P:=qb i
 clear J X T U Y i
 go_wp2_with fail
 refine(hF w1).mono ?_
 rintro e K ⟨rfl,v⟩
 have C:=(qa O).new (v.upd _)
 have d0:K.cell? ⟨B,0,none⟩=some (.pointer (some ⟨W,0,none⟩)):=v.cell (qg (qa L) 0)
 have d1:K.cell? ⟨B,1,none⟩=some (.pointer none):=v.cell (qg (qa L) 1)
 have co:K.cell? ⟨A,o,none⟩=some (.int .u64 (x:Int)):=by rw[qg C.at_,List.getElem?_toArray];exact ho
 have a6:=v.cell I
 have E:=(qa z).new (v.upd _)
 have R:=qb ((qa P).trans (v.upd _))
 have f:=fun w' (n':qq K w')=>qdn W x n s w' (E.new n') V.1 V.2 hx hs
 clear C v M L O z P E I
 go_wp2_with (with_reducible first|(first|refine' tw1 (qh ?_) ?_|refine' tw2 (qh ?_) ?_);rotate_left|refine' tw3 (qh ?_)|rfl|apply tn|refine' tw4 ?_)
 refine(f _ ((Upd.refl _ _).drew)).mono ?_
 rintro e w3 ⟨rfl,Z,H⟩
 have S:=qb (((qa R).drew.mono (fun _ _ h=>h.elim)).trans Z)
 have z:=qb H
 clear f R Z H
 go_wp2_with (with_reducible first|(first|refine' tw1 (qh ?_) ?_|refine' tw2 (qh ?_) ?_);rotate_left|refine' tw3 (qh ?_)|rfl|apply tn|refine' tw4 ?_)
 refine(qev _).mono ?_
 rintro e w4 ⟨rfl,N⟩
 have U4:=qb ((qa S).trans (N.upd _))
 have z:=qb ((qa z).new (N.upd _))
 clear S N
 go_wp2_with (with_reducible first|(first|refine' tw1 (qh ?_) ?_|refine' tw2 (qh ?_) ?_);rotate_left|refine' tw3 (qh ?_)|rfl|apply tn|refine' tw4 ?_)
 go_end0
 exact⟨rfl,qa U4,qa z⟩
set_option maxRecDepth 100000 in
set_option maxHeartbeats 1000000 in
theorem qou(F:FuncId)(o A p q W n:Nat)(x:Nat)(m:MsgV)(s:ByteArray)(w:World)(hE:∀args w,(callFunc F args).run Tryz.prog w = .ok (.enter F args) w)(hF:∀w,Calls Tryz.prog F #[.pointer (some ⟨A,0,none⟩)] w (qa0 (.pointer (some ⟨A,o,none⟩)) w))(X:w.cell? ⟨p,0,none⟩=some (.func (.func F) #[] #[]))(Y:w.cell? ⟨q,0,none⟩=some (.int .i64 (n:Int)))(T:MsB w A m)(ho:m.cells[o]? = some (.int .i64 (x:Int)))(U:Wr w W s)(V:1≤n∧n≤8)(hx:x<2 ^ (8*n))(a8:x<18446744073709551616)(hs:s.size≤1073741824) :
  Calls Tryz.prog 201 #[qg7 W,.pointer (some ⟨A,0,none⟩),.pointer (some ⟨p,0,none⟩),.pointer (some ⟨q,0,none⟩)] w fun e w'=>e = .returned (.tuple #[])∧Upd (fun k=>k=W) w w'∧Wr w' W (s++qx x n):=by
 unfold qg7
 have b3:(x:Int)<18446744073709551616:=by omega
 have a7:IntKind.u64.wrap (x:Int)=x:=qgi (by omega) (by omega)
 go_enter Tryz.func201,Tryz.ntmps201
 go_upto_region 1 with fail
 have i:qq w (w.alloc (.cells #[.pointer (some ⟨W,0,none⟩),.pointer none] 234)):=(Upd.refl _ _).alloc _
 have J:=qj w (.cells #[.pointer (some ⟨W,0,none⟩),.pointer none] 234)
 generalize w.alloc (.cells #[.pointer (some ⟨W,0,none⟩),.pointer none] 234)=w1 at i J ⊢
 generalize w.heap.size=B at J ⊢
 have M:=i.cell X (fun h=>h)
 have I:=i.cell Y (fun h=>h)
 have O:=qb (T.new i)
 have L:=qb J
 have z:=qb (U.new i)
 have P:=qb i
 clear J X T U Y i
 go_wp2_with fail
 refine(hF w1).mono ?_
 rintro e K ⟨rfl,v⟩
 have C:=(qa O).new (v.upd _)
 have d0:K.cell? ⟨B,0,none⟩=some (.pointer (some ⟨W,0,none⟩)):=v.cell (qg (qa L) 0)
 have d1:K.cell? ⟨B,1,none⟩=some (.pointer none):=v.cell (qg (qa L) 1)
 have co:K.cell? ⟨A,o,none⟩=some (.int .i64 (x:Int)):=by rw[qg C.at_,List.getElem?_toArray];exact ho
 have a6:=v.cell I
 have E:=(qa z).new (v.upd _)
 have R:=qb ((qa P).trans (v.upd _))
 have f:=fun w' (n':qq K w')=>qdn W x n s w' (E.new n') V.1 V.2 hx hs
 clear C v M L O z P E I
 go_wp2_with (with_reducible first|(first|refine' tw1 (qh ?_) ?_|refine' tw2 (qh ?_) ?_);rotate_left|refine' tw3 (qh ?_)|rfl|apply tn|refine' tw4 ?_)
 refine(f _ ((Upd.refl _ _).drew)).mono ?_
 rintro e w3 ⟨rfl,Z,H⟩
 have S:=qb (((qa R).drew.mono (fun _ _ h=>h.elim)).trans Z)
 have z:=qb H
 clear f R Z H
 go_wp2_with (with_reducible first|(first|refine' tw1 (qh ?_) ?_|refine' tw2 (qh ?_) ?_);rotate_left|refine' tw3 (qh ?_)|rfl|apply tn|refine' tw4 ?_)
 refine(qev _).mono ?_
 rintro e w4 ⟨rfl,N⟩
 have U4:=qb ((qa S).trans (N.upd _))
 have z:=qb ((qa z).new (N.upd _))
 clear S N
 go_wp2_with (with_reducible first|(first|refine' tw1 (qh ?_) ?_|refine' tw2 (qh ?_) ?_);rotate_left|refine' tw3 (qh ?_)|rfl|apply tn|refine' tw4 ?_)
 go_end0
 exact⟨rfl,qa U4,qa z⟩
set_option maxRecDepth 100000 in
set_option maxHeartbeats 1000000 in
theorem qxt(F:FuncId)(o A p q W n:Nat)(x:Nat)(m:MsgV)(s:ByteArray)(w:World)(hE:∀args w,(callFunc F args).run Tryz.prog w = .ok (.enter F args) w)(hF:∀w,Calls Tryz.prog F #[.pointer (some ⟨A,0,none⟩)] w (qa0 (.pointer (some ⟨A,o,none⟩)) w))(X:w.cell? ⟨p,0,none⟩=some (.func (.func F) #[] #[]))(Y:w.cell? ⟨q,0,none⟩=some (.int .i64 (n:Int)))(T:MsB w A m)(ho:m.cells[o]? = some (.int .u32 (x:Int)))(U:Wr w W s)(V:1≤n∧n≤8)(hx:x<2 ^ (8*n))(a8:x<18446744073709551616)(hs:s.size≤1073741824) :
  Calls Tryz.prog 214 #[qg7 W,.pointer (some ⟨A,0,none⟩),.pointer (some ⟨p,0,none⟩),.pointer (some ⟨q,0,none⟩)] w fun e w'=>e = .returned (.tuple #[])∧Upd (fun k=>k=W) w w'∧Wr w' W (s++qx x n):=by
 unfold qg7
 have b3:(x:Int)<18446744073709551616:=by omega
 have a7:IntKind.u64.wrap (x:Int)=x:=qgi (by omega) (by omega)
 go_enter Tryz.func214,Tryz.ntmps214
 go_upto_region 1 with fail
 have i:qq w (w.alloc (.cells #[.pointer (some ⟨W,0,none⟩),.pointer none] 234)):=(Upd.refl _ _).alloc _
 have J:=qj w (.cells #[.pointer (some ⟨W,0,none⟩),.pointer none] 234)
 generalize w.alloc (.cells #[.pointer (some ⟨W,0,none⟩),.pointer none] 234)=w1 at i J ⊢
 generalize w.heap.size=B at J ⊢
 have M:=i.cell X (fun h=>h)
 have I:=i.cell Y (fun h=>h)
 have O:=qb (T.new i)
 have L:=qb J
 have z:=qb (U.new i)
 have P:=qb i
 clear J X T U Y i
 go_wp2_with fail
 refine(hF w1).mono ?_
 rintro e K ⟨rfl,v⟩
 have C:=(qa O).new (v.upd _)
 have d0:K.cell? ⟨B,0,none⟩=some (.pointer (some ⟨W,0,none⟩)):=v.cell (qg (qa L) 0)
 have d1:K.cell? ⟨B,1,none⟩=some (.pointer none):=v.cell (qg (qa L) 1)
 have co:K.cell? ⟨A,o,none⟩=some (.int .u32 (x:Int)):=by rw[qg C.at_,List.getElem?_toArray];exact ho
 have a6:=v.cell I
 have E:=(qa z).new (v.upd _)
 have R:=qb ((qa P).trans (v.upd _))
 have f:=fun w' (n':qq K w')=>qdn W x n s w' (E.new n') V.1 V.2 hx hs
 clear C v M L O z P E I
 go_wp2_with (with_reducible first|(first|refine' tw1 (qh ?_) ?_|refine' tw2 (qh ?_) ?_);rotate_left|refine' tw3 (qh ?_)|rfl|apply tn|refine' tw4 ?_)
 refine(f _ ((Upd.refl _ _).drew)).mono ?_
 rintro e w3 ⟨rfl,Z,H⟩
 have S:=qb (((qa R).drew.mono (fun _ _ h=>h.elim)).trans Z)
 have z:=qb H
 clear f R Z H
 go_wp2_with (with_reducible first|(first|refine' tw1 (qh ?_) ?_|refine' tw2 (qh ?_) ?_);rotate_left|refine' tw3 (qh ?_)|rfl|apply tn|refine' tw4 ?_)
 refine(qev _).mono ?_
 rintro e w4 ⟨rfl,N⟩
 have U4:=qb ((qa S).trans (N.upd _))
 have z:=qb ((qa z).new (N.upd _))
 clear S N
 go_wp2_with (with_reducible first|(first|refine' tw1 (qh ?_) ?_|refine' tw2 (qh ?_) ?_);rotate_left|refine' tw3 (qh ?_)|rfl|apply tn|refine' tw4 ?_)
 go_end0
 exact⟨rfl,qa U4,qa z⟩
set_option maxRecDepth 100000 in
set_option maxHeartbeats 1000000 in
theorem quv(A W:Nat)(m:MsgV)(s:ByteArray)(w:World)(F:MsB w A m)(H:Wr w W s)(M:s.size≤1073741824) :
  Calls Tryz.prog 175 #[qg7 W,.pointer (some ⟨A,0,none⟩)] w fun e w'=>e = .returned (.tuple #[])∧Upd (fun k=>k=W) w w'∧Wr w' W (s++strOfNums m.hash):=by
 unfold qg7
 go_enter Tryz.func175,Tryz.ntmps175
 go_upto_region 2 with fail
 have C:qq w (w.alloc (.cells #[.pointer (some ⟨W,0,none⟩),.pointer none] 234)):=(Upd.refl _ _).alloc _
 have z:=qj w (.cells #[.pointer (some ⟨W,0,none⟩),.pointer none] 234)
 generalize w.alloc (.cells #[.pointer (some ⟨W,0,none⟩),.pointer none] 234)=w1 at C z ⊢
 generalize w.heap.size=B at z ⊢
 have O:w1.cell? ⟨B,0,none⟩=some (.pointer (some ⟨W,0,none⟩)):=qg z 0
 have P:w1.cell? ⟨B,1,none⟩=some (.pointer none):=qg z 1
 have i:=F.new C
 have q:=H.new C
 obtain⟨-,-,-,-,-,-,S⟩:=i.cells
 have L:=i.len
 have E:=qb C
 have f:=fun w' (N:qq w1 w')=>qty W m.hash s w' (q.new N) L M
 have e:(m.hash.map (Value.int .u8)).toArray=(qv m.hash).toArray:=rfl
 rw[e] at f
 clear z F H i q C e
 generalize qv m.hash=R at *
 go_wp2_with (with_reducible first|(first|refine' tw1 (qh ?_) ?_|refine' tw2 (qh ?_) ?_);rotate_left|refine' tw3 (qh ?_)|rfl|apply tn|refine' tw4 ?_)
 refine(f _ ((Upd.refl _ _).drew)).mono ?_
 rintro e T ⟨rfl,I,v⟩
 have K:=qb (((qa E).drew.mono (fun _ _ h=>h.elim)).trans I)
 have J:=qb v
 clear f E I v
 go_wp2_with (with_reducible first|(first|refine' tw1 (qh ?_) ?_|refine' tw2 (qh ?_) ?_);rotate_left|refine' tw3 (qh ?_)|rfl|apply tn|refine' tw4 ?_)
 go_end0
 exact⟨rfl,qa K,qa J⟩
structure PutOk(m:MsgV):Prop where
 ok:MsgOk m
 expiry:0≤m.expiry∧m.expiry<4294967296
 number:0≤m.number∧m.number<65536
theorem qsl(x:Fld)(base A W:Nat)(m:MsgV)(v:Value)(s:ByteArray)(w:World)(E:qgk base w v x)(f:MsB w A m)(P:PutOk m)(H:Wr w W s)(I:s.size≤1073741824) :
  ∃F C,v = .func (.func F) #[] C∧(∀args w,(callFunc F args).run Tryz.prog w = .ok (.enter F args) w)∧Calls Tryz.prog F (#[qg7 W,.pointer (some ⟨A,0,none⟩)]++C) w fun e w'=>e = .returned (.tuple #[])∧Upd (fun k=>k=W) w w'∧Wr w' W (s++x.put m):=by
 obtain⟨U,M,O,L,V,T,-,-⟩:=P.ok
 have N:=P.expiry
 have R:=P.number
 cases x with
 | ch =>
  obtain⟨p,q,rfl,J,K,i,z⟩:=E;refine⟨_,_,rfl,enters_of Tryz.func214 (by kernel_rfl) rfl,?_⟩;exact qxt 203 1 A p q W 4 m.ch.toNat m s w (enters_of Tryz.func203 (by kernel_rfl) rfl) (qnl A) i z f (by rw[Int.toNat_of_nonneg M.1];rfl) H (by decide) (by show m.ch.toNat<4294967296;omega) (by omega) I
 | id =>
  obtain⟨p,q,rfl,J,K,i,z⟩:=E;refine⟨_,_,rfl,enters_of Tryz.func200 (by kernel_rfl) rfl,?_⟩;exact qov 169 2 A p q W 8 m.id.toNat m s w (enters_of Tryz.func169 (by kernel_rfl) rfl) (qnh A) i z f (by rw[Int.toNat_of_nonneg O.1];rfl) H (by decide) (by show m.id.toNat<18446744073709551616;omega) (by omega) I
 | amount =>
  obtain⟨p,q,rfl,J,K,i,z⟩:=E;refine⟨_,_,rfl,enters_of Tryz.func200 (by kernel_rfl) rfl,?_⟩;exact qov 170 3 A p q W 8 m.amount.toNat m s w (enters_of Tryz.func170 (by kernel_rfl) rfl) (qni A) i z f (by rw[Int.toNat_of_nonneg L.1];rfl) H (by decide) (by show m.amount.toNat<18446744073709551616;omega) (by omega) I
 | expiry =>
  obtain⟨p,q,rfl,J,K,i,z⟩:=E;refine⟨_,_,rfl,enters_of Tryz.func201 (by kernel_rfl) rfl,?_⟩;have S:m.cells[36]? = some (.int .i64 m.expiry):=by
   have:=f.cells.2.2.2.2.1;rwa [qg f.at_,List.getElem?_toArray] at this
  exact qou 172 36 A p q W 4 m.expiry.toNat m s w (enters_of Tryz.func172 (by kernel_rfl) rfl) (qnj A) i z f (by rw[Int.toNat_of_nonneg N.1];exact S) H (by decide) (by show m.expiry.toNat<4294967296;omega) (by omega) I
 | number =>
  obtain⟨p,q,rfl,J,K,i,z⟩:=E;refine⟨_,_,rfl,enters_of Tryz.func201 (by kernel_rfl) rfl,?_⟩;have S:m.cells[37]? = some (.int .i64 m.number):=by
   have:=f.cells.2.2.2.2.2.1;rwa [qg f.at_,List.getElem?_toArray] at this
  exact qou 173 37 A p q W 2 m.number.toNat m s w (enters_of Tryz.func173 (by kernel_rfl) rfl) (qnk A) i z f (by rw[Int.toNat_of_nonneg R.1];exact S) H (by decide) (by show m.number.toNat<65536;omega) (by omega) I
 | hash =>
  have E:v=_:=E;subst E;exact⟨_,_,rfl,enters_of Tryz.func175 (by kernel_rfl) rfl,quv A W m s w f H I⟩
set_option maxRecDepth 100000 in
set_option maxHeartbeats 1000000 in
theorem qsx(base A W:Nat)(v:Value)(xs:List Fld)(m:MsgV)(s:ByteArray)(w0 w:World)(hv:FldsO base w0 v xs)(h0:qq w0 w)(hA:MsB w A m)(hm:PutOk m)(hW:Wr w W s)(a6:A≠W)(b6:w0.heap.size≤W)(c1:xs.length≤100)(hs:s.size≤1000000) :
  Calls Tryz.prog 139 #[qg7 W,v,.pointer (some ⟨A,0,none⟩)] w fun e w'=>e = .returned (.tuple #[])∧Upd (fun k=>k=W) w w'∧Wr w' W (qen xs m s):=by
 obtain⟨vs,z,b9,O⟩:=hv
 obtain⟨va,b5,T⟩:=qaa z
 have q:∀(i:Nat) (u:Value),vs[i]? = some u→∃g,va=some ⟨g,0,none⟩∧base≤g∧w0.cell? ⟨g,i,none⟩=some u:=by
  intro i u J;have R:=(List.getElem?_eq_some_iff.1 J).1;rcases z.2 with ⟨e,e0⟩ | ⟨g,cap,Z,e,I,hg,_,_,hs,ht⟩
  ·omega
  ·rw[T] at e;injection e with e1;refine⟨g,e1,I,?_⟩;rw[qg hg];have:Z.toList[i]? = some u:=by
    rw[←J,←ht,List.getElem?_take_of_lt (by omega)]
   rwa [Array.getElem?_toList] at this
 subst T
 clear z
 have H:=qb q
 have V:=qb O
 clear q O
 unfold qg7
 go_enter Tryz.func139,Tryz.ntmps139
 go_upto_region 1 with fail
 have K:qq w (w.alloc (.cells #[.pointer (some ⟨W,0,none⟩),.pointer none] 234)):=(Upd.refl _ _).alloc _
 have I:=qj w (.cells #[.pointer (some ⟨W,0,none⟩),.pointer none] 234)
 have a7:=hW.lt
 generalize w.alloc (.cells #[.pointer (some ⟨W,0,none⟩),.pointer none] 234)=w1 at K I ⊢
 have M:W≠w.heap.size:=by omega
 generalize w.heap.size=B at I M ⊢
 have HB:=qb I
 have U:=qb (hA.new K)
 have Y:=qb (hW.new K)
 have N1:=qb K
 have N0:=qb (h0.trans K)
 have c0:(xs.length:Int)≤100:=by omega
 clear I hA hW K a7 h0
 go_wp2_with fail
 go_loopw [7,10] (fun _ iv wr=>∃i:Nat,iv = .int .i64 (i:Int)∧i≤xs.length∧Hid (Wr wr W (qen (xs.take i) m s))∧Upd (fun k=>k=W) w1 wr) (fun _ iv _=>xs.length-(intOf iv).toNat)
 case atStart=>exact⟨0,rfl,Nat.zero_le _,Y,Upd.refl _ _⟩
 case round =>
  obtain⟨i,rfl,hi,hM,L⟩:=hrel;obtain⟨E,rfl⟩:∃E:World,E=wr:=⟨_,rfl⟩;by_cases R:i<xs.length
  ·obtain⟨x,hx⟩:∃x,xs[i]? = some x:=⟨_,List.getElem?_eq_getElem R⟩;obtain⟨u,J⟩:∃u,vs[i]? = some u:=⟨_,List.getElem?_eq_getElem (by omega)⟩;obtain⟨g,rfl,b7,hc⟩:=qa H i u J;have hf:=qa V i x u hx J;have nq:qq w0 E:=(qa N0).then L (fun k hk e=>by omega);have P:qgk base E u x:=hf.new nq;have a8:E.cell? ⟨g,i,none⟩=some u:=nq.cell hc (fun h=>h);have C:=L.old (qa HB) (fun e=>M e.symm);have rP:=qat C 2 rfl;have d0:E.cell? ⟨B,0,none⟩=some (.pointer (some ⟨W,0,none⟩)):=qg C 0;have d1:E.cell? ⟨B,1,none⟩=some (.pointer none):=qg C 1;have S:=qjl m hm.ok.len (xs.take i) s;rw[List.length_take] at S;obtain⟨F,b4,rfl,hE,f⟩:=qsl x base A W m u _ E P ((qa U).upd L a6) hm (qa hM) (by omega);rw[←q2a hx] at f;have b8:(i:Int)<(xs.length:Int):=by omega
   unfold qg7 at f;clear hf P hc C hx J S nq;go_wp2_with fail;refine f.mono ?_;rintro e w3 ⟨rfl,u3,N⟩;have b3:=L.trans u3;have X:=qb N;clear f rP d0 d1 a8 hE N u3 L;go_wp2_with fail;go_roundw
   case rel=>exact⟨i+1,by go_num,by omega,X,b3⟩
   case measure=>simp[intOf];omega
  ·obtain rfl:i=xs.length:=by omega
   rw[List.take_length] at hM;go_wp2_with fail;go_end0;exact⟨rfl,((qa N1).mono (fun _ _ h=>h.elim)).trans L,qa hM⟩
end Go.Proofs.YtfmkdoachjgjbaaGreatDoor
namespace Go.Proofs.YtfmkdoachjgjbaaGreatDoor
open Go.RowKit
def taF(x:Value):Sem Value:=Instr.typeAssert x 20 265 true
theorem qzf(x:Value):Instr.typeAssert x 20 265 true=taF x:=rfl
theorem zb6(w:World):(taF .nilIface).run Tryz.prog w = .ok (.tuple #[.agg #[.int .i64 0],.bool false]) w:=by kernel_rfl
attribute [local go_sem ↓ high] qzf
attribute [local go_sem] zb6
set_option maxHeartbeats 1000000 in
theorem qvl(p:Addr)(w:World) :
  CallsD Tryz.prog 165 #[.pointer (some p)] .returning w fun e q w'=>e = .returned (.tuple #[])∧q = .returning∧qq w w':=by
 refine callsD_of_wpS Tryz.func165 rfl fun f cs i=> ?_
 apply wpS_seq
 apply wpS_region
 simp[wpOpsS,go_sem,recoverD,i,Tryz.ntmps165,Exit.thenS]
 have m:qq w (w.alloc (.cells #[.int .i64 0] 265)):=(Upd.refl _ _).alloc _
 generalize w.alloc (.cells #[.int .i64 0] 265)=w1 at m ⊢
 generalize w.heap.size=B
 apply wpS_seq
 apply wpS_region
 simp[wpOpsS,go_sem,Exit.thenS]
 refine wpS_cond (t:=false) (by simp[Act.eval,Array.replicate]) ?_
 simp only[Bool.false_eq_true,if_false]
 refine wpS_of_wp (wp_skip ?_)
 cases f
 simp_all [bodyPostS,results,Tryz.results165]
def qyh(w:World)(b n:Nat)(F:Nat→FuncId)(f:Nat→Array Value):Prop:=∀i,i<n→w.cell? ⟨b,i,none⟩=some (.func (.func (F i)) #[] (f i))
set_option maxRecDepth 100000 in
set_option maxHeartbeats 2000000 in
theorem q9q(b n base:Nat)(F:Nat→FuncId)(m:Nat→Array Value)(T:Nat→Prop)(C:Nat→World→Prop)(w:World)(hn:n≤100)
  (H:qyh w b n F m) (hT:∀k,T k→k<base) (hb:base≤b) (X:base≤w.heap.size) (a6:b<w.heap.size)
  (L:∀i w w',C i w→Upd (fun k=>base≤k) w w'→C i w')
  (hs:∀i,i<n→∀w',C i w'→(∀args w,(callFunc (F i) args).run Tryz.prog w = .ok (.enter (F i) args) w)∧Calls Tryz.prog (F i) (m i) w' fun e z=>e = .returned (.tuple #[])∧Upd T w' z∧C (i+1) z)
  (h0:C 0 w) :
  Calls Tryz.prog 132 #[.slice (some ⟨b,0,none⟩) n n] w fun e w'=>e = .returned (.int .i64 0)∧Upd T w w'∧C n w':=by
 have a8:∀(fn:Fn) (first cap:Array Value) (w:World),(Instr.makeFunc fn first cap).run Tryz.prog w = .ok (.func fn first cap) w:=fun _ _ _ _=>rfl
 have b3:(n:Int)≤100:=by omega
 go_enter_defers Tryz.func132,Tryz.ntmps132
 go_upto_region 1 with fail
 have O:qq w (w.alloc (.cells #[.int .i64 0] 26)):=(Upd.refl _ _).alloc _
 have v:=qj w (.cells #[.int .i64 0] 26)
 have R:C 0 (w.alloc (.cells #[.int .i64 0] 26)):=L 0 w _ h0 (O.mono (fun _ _ h=>h.elim))
 generalize w.alloc (.cells #[.int .i64 0] 26)=w1 at O v R ⊢
 have N:base≤w.heap.size∧b≠w.heap.size:=⟨X,by omega⟩
 generalize M:w.heap.size=E at v N ⊢
 have P:=qb M
 clear M
 have HE:=qb v
 have H1:=qb R
 have HR:=qb H
 have N1:=qb O
 clear v R H O h0
 go_wp2_with fail
 go_loopw [8] (fun Z wr=>∃i:Nat,Z = .int .i64 (i:Int)∧i≤n∧Hid (C i wr)∧Upd T w1 wr) (fun Z _=>n-(intOf Z).toNat)
 case atStart=>exact⟨0,rfl,Nat.zero_le _,H1,Upd.refl _ _⟩
 case round =>
  obtain⟨i,rfl,hi,S,u⟩:=hrel;obtain⟨I,rfl⟩:∃I:World,I=wr:=⟨_,rfl⟩;by_cases K:i<n
  ·have a7:(i:Int)<(n:Int):=by omega
   obtain⟨Y,q⟩:=hs i K I (qa S);have hc:=u.cell ((qa N1).cell (qa HR i K) (fun h=>h)) (fun h=>by have h:T b:=h;have:=hT b h;omega);generalize F i=Fi at *
   generalize m i=ci at *
   clear S;go_wp2_with fail;refine q.mono ?_;rintro e w3 ⟨rfl,u3,J⟩;have J:=qb J;have u4:=u.trans u3;clear hc Y q u u3;go_wp2_with fail;go_roundw
   case rel=>exact⟨i+1,by go_num,K,J,u4⟩
   case measure=>simp[intOf];omega
  ·obtain rfl:i=n:=by omega
   have v:=u.old (qa HE) (fun h=>by have h:T E:=h;have:=hT E h;omega);have W:=v;have f0:=qu v 0;have c0:=qg v 0;have hU:=qb u;clear u v;go_wp2_with fail;have u5:Upd (fun k=>k=E) I (I.setCell ⟨E,0,none⟩ (.int .i64 0)):=(Upd.refl _ _).set1 _ _;have c5:(I.setCell ⟨E,0,none⟩ (.int .i64 0)).cell? ⟨E,0,none⟩=some (.int .i64 0):=qg (zv (W) 0 (.int .i64 0)) 0;have U:=L _ _ _ (qa S) (u5.mono (fun k _ e=>by rw[e];exact N.1));have U5:Upd T w (I.setCell ⟨E,0,none⟩ (.int .i64 0)):=(((qa N1).mono (fun _ _ h=>h.elim)).trans (qa hU)).then u5 (fun k hk e=>by have:=qa P;omega);generalize I.setCell ⟨E,0,none⟩ (.int .i64 0)=w5 at *
   refine leaves_cons (f:=165) (args:=#[.pointer (some ⟨E,0,none⟩)]) (by simp) (by simp[go_sem]) ?_;refine(qvl ⟨E,0,none⟩ _).mono ?_;rintro e u' z ⟨rfl,rfl,n⟩;have c6:=n.cell c5 (fun h=>h);have V:=L _ _ _ U (n.mono (fun _ _ h=>h.elim));have U6:Upd T w z:=U5.trans (n.mono (fun _ _ h=>h.elim));simp[Leaves,settle,results,Tryz.results132,go_sem,c6];exact⟨U6,V⟩
end Go.Proofs.YtfmkdoachjgjbaaGreatDoor
namespace Go.Proofs.YtfmkdoachjgjbaaGreatDoor
open Go.RowKit
theorem FldsO.upd{base:Nat}{w w':World}{v:Value}{xs:List Fld}{S:Nat→Prop}(h:FldsO base w v xs)(u:Upd S w w')(z:∀k,base≤k→¬S k):FldsO base w' v xs:=by
 obtain⟨K,f,J,H⟩:=h;refine⟨K,⟨f.1,?_⟩,J,fun i x a E F=>(H i x a E F).upd u z⟩;rcases f.2 with h | ⟨g,cap,m,C,q,I,r⟩
 ·exact .inl h
 ·exact .inr ⟨g,cap,m,C,q,u.old I (z g q),r⟩
theorem FldsO.new{base:Nat}{w w':World}{v:Value}{xs:List Fld}(h:FldsO base w v xs)(u:qq w w'):FldsO base w' v xs:=h.upd u (fun _ _ h=>h)
set_option maxRecDepth 100000 in
set_option maxHeartbeats 1000000 in
theorem q4m(V A W:Nat)(m:MsgV)(s:ByteArray)(w:World)(O:w.cell? ⟨V,0,none⟩=some (.pointer (some ⟨W,0,none⟩)))(E:MsB w A m)(H:0≤m.kind∧m.kind<256)(F:Wr w W s)(L:s.size≤1073741824) :
  Calls Tryz.prog 152 #[.pointer (some ⟨V,0,none⟩),.pointer (some ⟨A,0,none⟩)] w fun e w'=>e = .returned (.tuple #[])∧Upd (fun k=>k=W) w w'∧Wr w' W (s++qx m.kind.toNat 1):=by
 have K:=E.cells.1
 obtain⟨k,i⟩:=Int.eq_ofNat_of_zero_le H.1
 rw[i] at K
 have M:IntKind.u64.wrap (k:Int)=k:=qgi (by omega) (by omega)
 have f:=fun w' (N:qq w w')=>qdn W k 1 s w' (F.new N) (by decide) (by decide) (by show k<256;omega) L
 rw[i,Int.toNat_natCast]
 clear E F i H
 go_enter Tryz.func152,Tryz.ntmps152
 go_wp2_with (with_reducible first|(first|refine' tw1 (qh ?_) ?_|refine' tw2 (qh ?_) ?_);rotate_left|refine' tw3 (qh ?_)|rfl|apply tn|refine' tw4 ?_)
 refine(f _ (Upd.refl _ _)).mono ?_
 rintro e P ⟨rfl,I,q⟩
 have C:=qb I
 have v:=qb q
 clear f I q
 go_wp2_with (with_reducible first|(first|refine' tw1 (qh ?_) ?_|refine' tw2 (qh ?_) ?_);rotate_left|refine' tw3 (qh ?_)|rfl|apply tn|refine' tw4 ?_)
 refine(qev _).mono ?_
 rintro e R ⟨rfl,z⟩
 have J:=qb ((qa C).trans (z.upd _))
 have v:=qb ((qa v).new (z.upd _))
 clear C z
 go_wp2_with (with_reducible first|(first|refine' tw1 (qh ?_) ?_|refine' tw2 (qh ?_) ?_);rotate_left|refine' tw3 (qh ?_)|rfl|apply tn|refine' tw4 ?_)
 go_end0
 exact⟨rfl,qa J,qa v⟩
set_option maxRecDepth 100000 in
set_option maxHeartbeats 1000000 in
theorem q4n(base V L A W:Nat)(v:Value)(xs:List Fld)(m:MsgV)(s:ByteArray)(w0 w:World)(X:w.cell? ⟨V,0,none⟩=some (.pointer (some ⟨W,0,none⟩)))(U:w.cell? ⟨L,0,none⟩=some v)(E:FldsO base w0 v xs)(J:qq w0 w)(K:MsB w A m)(S:PutOk m)(M:Wr w W s)(z:A≠W)(C:w0.heap.size≤W)(H:xs.length≤100)(T:s.size≤1000000) :
  Calls Tryz.prog 153 #[.pointer (some ⟨V,0,none⟩),.pointer (some ⟨L,0,none⟩),.pointer (some ⟨A,0,none⟩)] w fun e w'=>e = .returned (.tuple #[])∧Upd (fun k=>k=W) w w'∧Wr w' W (qen xs m s):=by
 obtain⟨Y,O,F⟩:∃a c,v = .slice a xs.length c:=by
  obtain⟨Z,q,-⟩:=E;exact qaa q
 subst F
 have f:=fun w' (I:qq w w')=>qsx base A W _ xs m s w0 w' E (J.trans I) (K.new I) S (M.new I) z C H T
 unfold qg7 at f
 clear E K M J
 go_enter Tryz.func153,Tryz.ntmps153
 go_wp2_with (with_reducible first|(first|refine' tw1 (qh ?_) ?_|refine' tw2 (qh ?_) ?_);rotate_left|refine' tw3 (qh ?_)|rfl|apply tn|refine' tw4 ?_)
 refine(f _ (Upd.refl _ _)).mono ?_
 rintro e w3 ⟨rfl,N,i⟩
 have R:=qb N
 have P:=qb i
 clear f N i
 go_wp2_with (with_reducible first|(first|refine' tw1 (qh ?_) ?_|refine' tw2 (qh ?_) ?_);rotate_left|refine' tw3 (qh ?_)|rfl|apply tn|refine' tw4 ?_)
 go_end0
 exact⟨rfl,qa R,qa P⟩
def qia(xs:List Fld)(m:MsgV):ByteArray:=qen xs m (qx m.kind.toNat 1)
attribute [local go_sem ↓ high] qz zb zc
attribute [local go_sem] qaw qax qa1 qw
set_option maxRecDepth 100000 in
set_option maxHeartbeats 2000000 in
theorem qwc(m:MsgV)(xs:List Fld)(hm:PutOk m)(hk:fieldsOf m.kind=some xs)(b9:0≤m.kind∧m.kind<256)(c2:xs.length≤100)(a7:qap m=true)(w:World) :
  Calls Tryz.prog 115 #[.agg m.cells.toArray] w (qa5 (.tuple #[.string (qia xs m),.int .i64 0]) w):=by
 have c4:∀(fn:Fn) (first cap:Array Value) (w:World),(Instr.makeFunc fn first cap).run Tryz.prog w = .ok (.func fn first cap) w:=fun _ _ _ _=>rfl
 have K:=fun w'=>qht m hm.ok w'
 rw[a7] at K
 have a6:=fun w'=>qj3 m.kind xs hk w'
 go_enter Tryz.func115,Tryz.ntmps115
 go_upto_region 1 with fail
 have P:=qai w m hm.ok.len
 have n1:qq w (w.alloc (.cells m.cells.toArray 101)):=(Upd.refl _ _).alloc _
 generalize w.alloc (.cells m.cells.toArray 101)=w1 at n1 P ⊢
 generalize w.heap.size=A at P ⊢
 have rA:=P.row
 have F:=qb P
 have N1:=qb n1
 clear P n1
 go_wp2_with fail
 refine(K w1).mono ?_
 rintro e w2 ⟨rfl,n2⟩
 have H:=(qa F).new n2
 have c0:=H.cells.1
 have F:=qb H
 have N2:=qb ((qa N1).trans n2)
 clear rA K n2 H N1
 go_wp2_with fail
 refine(a6 w2).mono ?_
 rintro e f ⟨v,rfl,n3,N⟩
 obtain⟨va,vc,rfl⟩:∃a c,v = .slice a xs.length c:=by
  obtain⟨vs,a8,-⟩:=N;exact qaa a8
 have R:=(qa F).new n3
 have HF:=qb N
 have c1:=n3.size
 have F:=qb R
 have N3:=qb ((qa N2).trans n3)
 clear a6 n3 N R N2 c0
 go_upto_region 5 with fail
 have n4:qq f (f.alloc (.cells #[.slice va xs.length vc] 226)):=(Upd.refl _ _).alloc _
 have b4:=qj f (.cells #[.slice va xs.length vc] 226)
 have z4:(f.alloc (.cells #[.slice va xs.length vc] 226)).heap.size=f.heap.size+1:=World.size_alloc _ _
 generalize f.alloc (.cells #[.slice va xs.length vc] 226)=w4 at n4 b4 z4 ⊢
 have n5:qq w4 (w4.alloc (.cells #[.string ⟨#[]⟩] 174)):=(Upd.refl _ _).alloc _
 have b5:=qj w4 (.cells #[.string ⟨#[]⟩] 174)
 have z5:(w4.alloc (.cells #[.string ⟨#[]⟩] 174)).heap.size=f.heap.size+2:=by rw[World.size_alloc,z4]
 rw[z4] at b5
 generalize w4.alloc (.cells #[.string ⟨#[]⟩] 174)=w5 at n5 b5 z5 ⊢
 have O:qq w5 (w5.alloc (.cells #[.pointer (some ⟨f.heap.size+1,0,none⟩)] 172)):=(Upd.refl _ _).alloc _
 have b6:=qj w5 (.cells #[.pointer (some ⟨f.heap.size+1,0,none⟩)] 172)
 have z6:(w5.alloc (.cells #[.pointer (some ⟨f.heap.size+1,0,none⟩)] 172)).heap.size=f.heap.size+3:=by rw[World.size_alloc,z5]
 rw[z5] at b6
 generalize w5.alloc (.cells #[.pointer (some ⟨f.heap.size+1,0,none⟩)] 172)=C at O b6 z6 ⊢
 have U:=(qa F).lt
 have b7:=qj C (.cells #[.func (.func 152) #[] #[.pointer (some ⟨f.heap.size+1+1,0,none⟩),.pointer (some ⟨A,0,none⟩)],.func (.func 153) #[] #[.pointer (some ⟨f.heap.size+1+1,0,none⟩),.pointer (some ⟨f.heap.size,0,none⟩),.pointer (some ⟨A,0,none⟩)]] 1)
 have n7:qq C (C.alloc (.cells #[.func (.func 152) #[] #[.pointer (some ⟨f.heap.size+1+1,0,none⟩),.pointer (some ⟨A,0,none⟩)],.func (.func 153) #[] #[.pointer (some ⟨f.heap.size+1+1,0,none⟩),.pointer (some ⟨f.heap.size,0,none⟩),.pointer (some ⟨A,0,none⟩)]] 1)):=(Upd.refl _ _).alloc _
 have z7:(C.alloc (.cells #[.func (.func 152) #[] #[.pointer (some ⟨f.heap.size+1+1,0,none⟩),.pointer (some ⟨A,0,none⟩)],.func (.func 153) #[] #[.pointer (some ⟨f.heap.size+1+1,0,none⟩),.pointer (some ⟨f.heap.size,0,none⟩),.pointer (some ⟨A,0,none⟩)]] 1)).heap.size=f.heap.size+4:=by rw[World.size_alloc,z6]
 rw[z6] at b7
 have I:C.cell? ⟨f.heap.size,0,none⟩=some (.slice va xs.length vc):=O.cell (n5.cell (qg b4 0) (fun h=>h)) (fun h=>h)
 have J:C.cell? ⟨f.heap.size+1+1,0,none⟩=some (.pointer (some ⟨f.heap.size+1,0,none⟩)):=qg b6 0
 have Z:Wr C (f.heap.size+1) ⟨#[]⟩:=O.old b5 (fun h=>h)
 have S:=(((qa F).new n4).new n5).new O
 have L:qq f C:=(n4.trans n5).trans O
 have N:=qa HF
 have N6:=qb ((qa N3).trans L)
 have q:=q9q (f.heap.size+3) 2 (f.heap.size+3) (fun i=>if i=0 then 152 else 153)
  (fun i=>if i=0 then #[.pointer (some ⟨f.heap.size+1+1,0,none⟩),.pointer (some ⟨A,0,none⟩)] else #[.pointer (some ⟨f.heap.size+1+1,0,none⟩),.pointer (some ⟨f.heap.size,0,none⟩),.pointer (some ⟨A,0,none⟩)])
  (fun k=>k=f.heap.size+1) (fun i w'=>Upd (fun k=>k=f.heap.size+1) C w'∧Wr w' (f.heap.size+1) (if i=0 then ⟨#[]⟩ else if i=1 then qx m.kind.toNat 1 else qia xs m)) _ (by decide)
  (by
   intro i hi;rcases (by omega:i=0∨i=1) with rfl | rfl
   ·exact qg b7 0
   ·exact qg b7 1)
  (fun k hk=>by omega) (Nat.le_refl _) (by rw[z7];omega) (by rw[z7];omega)
  (by
   rintro i a b ⟨E,h2⟩ u;exact⟨E.then u (fun k hk t=>by have t:f.heap.size+3≤k:=t;omega),u.old h2 (fun t=>by have t:f.heap.size+3≤f.heap.size+1:=t;omega)⟩)
  (by
   rintro i hi a ⟨E,h2⟩;have Y:=E.cell J (fun h=>by have h:f.heap.size+1+1=f.heap.size+1:=h;omega);have b3:=E.cell I (fun h=>by have h:f.heap.size=f.heap.size+1:=h;omega);have T:=S.upd E (fun h=>by have h:A=f.heap.size+1:=h;omega);have c3:qq f a:=L.then E (fun k hk t=>by omega);rcases (by omega:i=0∨i=1) with rfl | rfl
   ·refine⟨enters_of Tryz.func152 (by kernel_rfl) rfl,?_⟩;refine(q4m _ A _ m _ a Y T b9 h2 (by show (0:Nat)≤_;omega)).mono ?_;rintro e b ⟨rfl,u,hb⟩;refine⟨rfl,u,E.trans u,?_⟩;have e0:(⟨#[]⟩:ByteArray)++qx m.kind.toNat 1=qx m.kind.toNat 1:=ByteArray.empty_append;exact e0▸hb
   ·refine⟨enters_of Tryz.func153 (by kernel_rfl) rfl,?_⟩;refine(q4n _ _ _ A _ _ xs m _ f a Y b3 N c3 T hm h2 (by omega) (by omega) c2 (by show (qx m.kind.toNat 1).size≤1000000;rw[qaq];decide)).mono ?_;rintro e b ⟨rfl,u,hb⟩;exact⟨rfl,u,E.trans u,hb⟩)
  ⟨n7.mono (fun _ _ h=>h.elim),n7.old Z (fun h=>h)⟩
 have X:=qb I
 clear b4 b5 b6 b7 I N S n4 n5 O z4 z5 F HF
 go_wp2_with fail
 refine q.mono ?_
 rintro e w8 ⟨rfl,u8,M,z⟩
 have b8:=M.cell J (fun h=>by have h:f.heap.size+1+1=f.heap.size+1:=h;omega)
 have z:Wr w8 (f.heap.size+1) (qia xs m):=z
 have N8:=qb ((qa N6).then M (fun k hk t=>by have:=(qa N3).size;omega))
 clear q u8 M n7 z7 J Z L N6 N3 z6 X U c1
 generalize f.heap.size+1=W at *
 generalize qia xs m=s at *
 generalize W+1=V at *
 go_wp2_with fail
 refine(qft _ _ _ z).mono ?_
 rintro e w9 ⟨rfl,rfl⟩
 clear z b8
 go_wp2_with fail
 go_ret2
 exact⟨rfl,qa N8⟩
end Go.Proofs.YtfmkdoachjgjbaaGreatDoor
namespace Go.Proofs.YtfmkdoachjgjbaaGreatDoor
open Go.RowKit
def hd(r:ByteArray):Int:=bt r 0*256+bt r 1
theorem qyv(r:ByteArray):0≤hd r∧hd r≤65535:=by
 have f:=qe9 r 0;have i:=qe9 r 1;unfold hd;omega
def qei(r:ByteArray):Bool:=decide (2≤r.size)&&(decide (hd r=0) || decide (1024<hd r))
theorem qvy{r:ByteArray}(h:r.size<2):qei r=false:=by unfold qei;simp;omega
theorem qzm{r:ByteArray}(h:2≤r.size)(f:hd r=0):qei r=true:=by unfold qei;simp;omega
theorem qvx{r:ByteArray}(h:2≤r.size)(f:1024<hd r):qei r=true:=by unfold qei;simp;omega
theorem qpz{r:ByteArray}(f:1≤hd r)(i:hd r≤1024):qei r=false:=by unfold qei;simp;omega
def Spl(w:World)(b:Nat)(r:ByteArray):Prop:=w.heap[b]? = some (.cells #[.string r] 169 (0,0))
theorem Spl.cell{w:World}{b:Nat}{r:ByteArray}(h:Spl w b r):w.cell? ⟨b,0,none⟩=some (.string r):=(qg h 0)
theorem Spl.free{w:World}{b:Nat}{r:ByteArray}(h:Spl w b r):w.frozen? ⟨b,0,none⟩=false:=(qu h 0)
theorem Spl.set{w:World}{b:Nat}{r:ByteArray}(h:Spl w b r)(s:ByteArray):Spl (w.setCell ⟨b,0,none⟩ (.string s)) b s:=(zv h 0 _)
theorem Spl.drewN{w:World}{b:Nat}{r:ByteArray}(h:Spl w b r)(n:Nat):Spl (w.drewN n) b r:=h
theorem Spl.q{w w':World}{b:Nat}{r:ByteArray}(h:Spl w b r)(q:Q w w'):Spl w' b r:=q.old h
theorem Spl.upd{S:Nat→Prop}{w w':World}{b:Nat}{r:ByteArray}(h:Spl w b r)(u:Upd S w w')(f:¬S b):Spl w' b r:=u.old h f
def Leaves(v:Value)(b:Nat)(r:ByteArray)(w:World)(e:Ending)(w':World):Prop:=e = .returned v∧Upd (· = b) w w'∧Spl w' b r
set_option maxHeartbeats 400000 in
theorem qvg(b:Nat)(r:ByteArray)(w:World)(f:w.cell? ⟨b,0,none⟩=some (.string r)) :
  Calls Tryz.prog 103 #[.pointer (some ⟨b,0,none⟩)] w fun e w'=>e = .returned (.int .i64 r.size)∧w=w':=by
 go_enter Tryz.func103,Tryz.ntmps103
 go_wp2
 go_ret
 exact⟨rfl,rfl⟩
set_option maxHeartbeats 400000 in
theorem q9g(b:Nat)(r s:ByteArray)(w:World)(f:w.cell? ⟨b,0,none⟩=some (.string r))(i:w.frozen? ⟨b,0,none⟩=false)(m:r.size+s.size≤9223372036854775807) :
  Calls Tryz.prog 102 #[.pointer (some ⟨b,0,none⟩),.string s] w fun e w'=>e = .returned (.tuple #[])∧w.setCell ⟨b,0,none⟩ (.string (r++s))=w':=by
 go_enter Tryz.func102,Tryz.ntmps102
 go_wp2
 go_end0
 exact⟨rfl,rfl⟩
set_option maxHeartbeats 400000 in
theorem qk0(b:Nat)(r:ByteArray)(w:World)(f:w.cell? ⟨b,0,none⟩=some (.string r))(h:r.size<2) :
  Calls Tryz.prog 101 #[.pointer (some ⟨b,0,none⟩)] w (qa0 (.tuple #[.int .i64 0,.bool false]) w):=by
 go_enter Tryz.func101,Tryz.ntmps101
 go_wp2
 go_ret2
 exact⟨rfl,Q.refl _⟩
set_option maxHeartbeats 400000 in
theorem qd0(b:Nat)(r:ByteArray)(w:World)(C:w.cell? ⟨b,0,none⟩=some (.string r))(h:2≤r.size) :
  Calls Tryz.prog 101 #[.pointer (some ⟨b,0,none⟩)] w (qa0 (.tuple #[.int .i64 (hd r),.bool true]) w):=by
 have v:∀w,(Instr.index 9 (.string r) (.int .i64 0)).run Tryz.prog w = .ok (.int .u8 (bt r 0)) w:=qea 9 r .i64 0 0 Tryz.underlying9 rfl (by omega)
 have z:∀w,(Instr.index 9 (.string r) (.int .i64 1)).run Tryz.prog w = .ok (.int .u8 (bt r 1)) w:=qea 9 r .i64 1 1 Tryz.underlying9 rfl (by omega)
 obtain⟨f,i⟩:=qe9 r 0
 obtain⟨m,q⟩:=qe9 r 1
 go_enter Tryz.func101,Tryz.ntmps101
 go_wp2
 go_quiet (fail)
 go_wp2
 go_ret2
 refine⟨?_,Q.drewN _ _⟩
 show Ending.returned (.tuple #[.int .i64 (bits .or .i64 (bt r 0*256) (bt r 1)),.bool true])=_
 rw[or8 _ _ f i m q]
 rfl
set_option maxHeartbeats 400000 in
theorem q8n(b:Nat)(r:ByteArray)(n:Int)(w:World)(i:w.cell? ⟨b,0,none⟩=some (.string r))(m:w.frozen? ⟨b,0,none⟩=false)(f:0≤n)(q:n≤r.size) :
  Calls Tryz.prog 104 #[.pointer (some ⟨b,0,none⟩),.int .i64 n] w fun e w'=>e = .returned (.string (r.extract 0 n.toNat))∧w.setCell ⟨b,0,none⟩ (.string (r.extract n.toNat r.size))=w':=by
 obtain⟨k,rfl⟩:=Int.eq_ofNat_of_zero_le f
 go_enter Tryz.func104,Tryz.ntmps104
 go_wp2
 go_ret
 exact⟨rfl,rfl⟩
set_option maxHeartbeats 400000 in
theorem qrl(b:Nat)(r:ByteArray)(w:World)(m:w.cell? ⟨b,0,none⟩=some (.string r)) :
  Calls Tryz.prog 62 #[.pointer (some ⟨b,0,none⟩)] w (qa0 (.bool (qei r)) w):=by
 obtain⟨C,E⟩:=qyv r
 by_cases h:r.size<2
 ·rw[qvy h];go_enter Tryz.func62,Tryz.ntmps62;go_wp2_with fail;refine(qk0 b r _ m h).mono ?_;rintro e w1 ⟨rfl,f⟩;go_wp2;go_ret;exact⟨rfl,f⟩
 ·by_cases i:hd r=0
  ·rw[qzm (by omega) i];have H:=Lib.hid i;clear i;go_enter Tryz.func62,Tryz.ntmps62;go_wp2_with fail;refine(qd0 b r _ m (by omega)).mono ?_;rintro e w1 ⟨rfl,f⟩;have z:(hd r==0)=true:=by rw[H.out];rfl
   go_wp2;go_ret;exact⟨rfl,f⟩
  ·have z:(hd r==0)=false:=by simpa using i
   by_cases q:1024<hd r
   ·rw[qvx (by omega) q];go_enter Tryz.func62,Tryz.ntmps62;go_wp2_with fail;refine(qd0 b r _ m (by omega)).mono ?_;rintro e w1 ⟨rfl,f⟩;go_wp2;go_ret;exact⟨rfl,f⟩
   ·rw[qpz (by omega) (by omega)];have v:decide (1024<hd r)=false:=by simpa using q
    go_enter Tryz.func62,Tryz.ntmps62;go_wp2_with fail;refine(qd0 b r _ m (by omega)).mono ?_;rintro e w1 ⟨rfl,f⟩;go_wp2;go_ret;exact⟨rfl,f⟩
theorem q3j(b:Nat)(r:ByteArray)(w:World)(f:w.cell? ⟨b,0,none⟩=some (.string r))(h:qei r=true) :
  Calls Tryz.prog 62 #[.pointer (some ⟨b,0,none⟩)] w (qa0 (.bool true) w):=h▸qrl b r w f
theorem qjb(b:Nat)(r:ByteArray)(w:World)(f:w.cell? ⟨b,0,none⟩=some (.string r))(h:qei r=false) :
  Calls Tryz.prog 62 #[.pointer (some ⟨b,0,none⟩)] w (qa0 (.bool false) w):=h▸qrl b r w f
set_option maxHeartbeats 400000 in
theorem q9f(b:Nat)(r s:ByteArray)(w:World)(f:Spl w b r)(h:qei r=false)(m:r.size+s.size≤9223372036854775807) :
  Calls Tryz.prog 63 #[.pointer (some ⟨b,0,none⟩),.string s] w (Leaves (.int .i64 0) b (r++s) w):=by
 go_enter Tryz.func63,Tryz.ntmps63
 go_wp2_with fail
 refine(qjb b r _ f.cell h).mono ?_
 rintro e w1 ⟨rfl,i⟩
 go_wp2_with fail
 refine(q9g b r s _ (f.q i).cell (f.q i).free m).mono ?_
 rintro e w' ⟨rfl,rfl⟩
 go_wp2
 go_ret
 exact⟨rfl,(i.upd _).set1 _ _,(f.q i).set _⟩
def qh2(r:ByteArray):Prop:=2≤r.size∧qei r=false∧2+hd r≤r.size
set_option maxHeartbeats 400000 in
theorem qxj(b:Nat)(r:ByteArray)(w:World)(f:Spl w b r)(h:qh2 r) :
  Calls Tryz.prog 64 #[.pointer (some ⟨b,0,none⟩)] w (Leaves (.tuple #[.string ((r.extract 0 (2+hd r).toNat).extract 2 (2+hd r).toNat),.bool true]) b (r.extract (2+hd r).toNat r.size) w):=by
 obtain⟨C,m,z⟩:=h
 obtain⟨F,H⟩:=qyv r
 have E:decide ((r.size:Int)<2+hd r)=false:=by simp;omega
 go_enter Tryz.func64,Tryz.ntmps64
 go_wp2_with fail
 refine(qd0 b r _ f.cell C).mono ?_
 rintro e w1 ⟨rfl,i⟩
 go_wp2_with fail
 refine(qjb b r _ (f.q i).cell m).mono ?_
 rintro e I ⟨rfl,v⟩
 go_wp2_with fail
 refine(qvg b r _ ((f.q i).q v).cell).mono ?_
 rintro e w' ⟨rfl,rfl⟩
 go_wp2_with fail
 refine(q8n b r (2+hd r) _ ((f.q i).q v).cell ((f.q i).q v).free (by omega) z).mono ?_
 rintro e w' ⟨rfl,rfl⟩
 go_wp2
 go_ret2
 exact⟨rfl,((i.trans v).upd _).set1 _ _,((f.q i).q v).set _⟩
theorem q1n{r:ByteArray}(h:¬qh2 r):r.size<2∨(2≤r.size∧qei r=true)∨(2≤r.size∧qei r=false∧r.size<2+hd r):=by
 by_cases f:r.size<2
 ·exact .inl f
 ·cases m:qei r with
  | true=>exact .inr (.inl ⟨by omega,rfl⟩)
  | false=>exact .inr (.inr ⟨by omega,rfl,by
    refine Int.not_le.1 fun i=>h ⟨by omega,m,i⟩⟩)
set_option maxHeartbeats 400000 in
theorem q6f(b:Nat)(r:ByteArray)(w:World)(m:Spl w b r)(h:¬qh2 r) :
  Calls Tryz.prog 64 #[.pointer (some ⟨b,0,none⟩)] w (Leaves (.tuple #[.string ⟨#[]⟩,.bool false]) b r w):=by
 obtain⟨I,J⟩:=qyv r
 rcases q1n h with E | ⟨z,f⟩ | ⟨z,f,C⟩
 ·clear h;go_enter Tryz.func64,Tryz.ntmps64;go_wp2_with fail;refine(qk0 b r _ m.cell E).mono ?_;rintro e w1 ⟨rfl,i⟩;go_wp2;go_ret2;exact⟨rfl,i.upd _,m.q i⟩
 ·clear h;go_enter Tryz.func64,Tryz.ntmps64;go_wp2_with fail;refine(qd0 b r _ m.cell z).mono ?_;rintro e w1 ⟨rfl,i⟩;go_wp2_with fail;refine(q3j b r _ (m.q i).cell f).mono ?_;rintro e H ⟨rfl,v⟩;go_wp2;go_ret2;exact⟨rfl,(i.trans v).upd _,(m.q i).q v⟩
 ·have F:decide ((r.size:Int)<2+hd r)=true:=by simpa using C
  clear h;go_enter Tryz.func64,Tryz.ntmps64;go_wp2_with fail;refine(qd0 b r _ m.cell z).mono ?_;rintro e w1 ⟨rfl,i⟩;go_wp2_with fail;refine(qjb b r _ (m.q i).cell f).mono ?_;rintro e H ⟨rfl,v⟩;go_wp2_with fail;refine(qvg b r _ ((m.q i).q v).cell).mono ?_;rintro e w' ⟨rfl,rfl⟩;go_wp2;go_ret2;exact⟨rfl,(i.trans v).upd _,(m.q i).q v⟩
def qcw(s:ByteArray):ByteArray:=strOfNums [(s.size:Int) / 256,(s.size:Int)%256]++s
set_option maxHeartbeats 400000 in
theorem quw(s:ByteArray)(w:World)(m:0<s.size)(z:s.size≤1024) :
  Calls Tryz.prog 116 #[.string s] w (qa5 (.tuple #[.string (qcw s),.int .i64 0]) w):=by
 have v:=q7g m
 have q:=@qo1 Tryz.prog 95 9 5 Tryz.underlying95 Tryz.underlying5 Tryz.underlying9 5
 have f:(strOfNums [(s.size:Int) / 256,(s.size:Int)%256]).size=2:=strOfNums_size _
 have i:(strOfNums [(s.size:Int) / 256,(s.size:Int)%256]).size+s.size≤9223372036854775807:=by omega
 clear f
 go_enter Tryz.func116,Tryz.ntmps116
 go_wp2
 go_ret2
 exact⟨rfl,(Upd.refl _ _).alloc _⟩
def ready(r:ByteArray):Bool:=decide (2≤r.size) && !qei r&&decide (2+hd r≤r.size)
def qlq(w:World)(b n:Nat)(F:Nat→FuncId)(m f:Nat→Array Value):Prop:=∀i,i<n→w.cell? ⟨b,i,none⟩=some (.func (.func (F i)) (m i) (f i))
def qyg(n:Nat)(C:Nat→World→Prop)(D:Int→World→Prop)(e:Ending)(w':World):Prop :=
 (e = .returned (.int .i64 0)∧C n w')∨∃er:Int,er≠0∧e = .returned (.int .i64 er)∧D er w'
set_option maxRecDepth 100000 in
set_option maxHeartbeats 2000000 in
theorem qwb(g b n:Nat)(F:Nat→FuncId)(I m:Nat→Array Value)(T:Nat→Prop)(C:Nat→World→Prop)(D:Int→World→Prop)(w:World)(hn:n≤100)
  (hd:w.cell? ⟨g,6,none⟩=some (.bool false)) (q:qlq w b n F I m) (Z:¬T b)
  (hs:∀i,i<n→∀w',C i w'→(∀args w,(callFunc (F i) args).run Tryz.prog w = .ok (.enter (F i) args) w)∧Calls Tryz.prog (F i) (I i++m i) w' fun e H=>Upd T w' H∧qyg (i+1) C D e H)
  (N:C 0 w) :
  Calls Tryz.prog 66 #[.pointer (some ⟨g,0,none⟩),.slice (some ⟨b,0,none⟩) n n] w fun e w'=>Upd T w w'∧qyg n C D e w':=by
 have a7:(n:Int)≤100:=by omega
 have S:=qb N
 have W:=qb q
 clear N q
 go_enter Tryz.func66,Tryz.ntmps66
 go_wp2_with fail
 go_loopw [14] (fun K wr=>∃i:Nat,K = .int .i64 (i:Int)∧i≤n∧Hid (C i wr)∧Upd T w wr) (fun K _=>n-(intOf K).toNat)
 case atStart=>exact⟨0,rfl,Nat.zero_le _,S,Upd.refl _ _⟩
 case round =>
  obtain⟨i,rfl,hi,J,u⟩:=hrel;obtain⟨M,rfl⟩:∃M:World,M=wr:=⟨_,rfl⟩;by_cases z:i<n
  ·have a6:(i:Int)<(n:Int):=by omega
   obtain⟨E,f⟩:=hs i z M (qa J);have P:=u.cell (qa W i z) Z;generalize F i=Fi at *
   generalize I i=fi at *
   generalize m i=ci at *
   clear J hd;go_wp2_with fail;refine f.mono ?_;rintro e w3 ⟨L,Y⟩;have R:=u.trans L;rcases Y with ⟨rfl,v⟩ | ⟨er,he,rfl,O⟩
   ·have v:=qb v;clear P E f u L;go_wp2_with fail;go_roundw
    case rel=>exact⟨i+1,by go_num,z,v,R⟩
    case measure=>simp[intOf];omega
   ·have U:=qb O;have V:=qb he;clear P E f u L O;go_wp2_with fail;go_ret;exact⟨R,.inr ⟨er,qa V,rfl,qa U⟩⟩
  ·obtain rfl:i=n:=by omega
   have X:=qb u;clear hd u;go_wp2_with fail;go_ret;exact⟨qa X,.inl ⟨rfl,qa J⟩⟩
end Go.Proofs.YtfmkdoachjgjbaaGreatDoor
