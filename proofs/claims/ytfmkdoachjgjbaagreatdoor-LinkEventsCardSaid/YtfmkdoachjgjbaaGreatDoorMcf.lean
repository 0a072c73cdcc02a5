/-
  Fields of messages, written (printed by tools/mk_wrt.py).
-/
import Derived.Test.YtfmkdoachjgjbaaGreatDoorMbi
import Derived.Test.YtfmkdoachjgjbaaGreatDoorMad
import Derived.Defers
import Derived.Recover
import Derived.Test.YtfmkdoachjgjbaaGreatDoorRows
import Derived.Test.YtfmkdoachjgjbaaGreatDoorMaa
import Derived.Test.YtfmkdoachjgjbaaGreatDoorMce
set_option maxRecDepth 100000
set_option maxHeartbeats 2000000
set_option linter.unusedVariables false
set_option linter.unusedSimpArgs false
namespace Go.Proofs.YtfmkdoachjgjbaaGreatDoor
section
open Go.RowKit
def Fld.put(x:Fld)(m:MsgV):ByteArray :=
 match x with
 | .ch=>qw m.ch.toNat 4
 | .id=>qw m.id.toNat 8
 | .amount=>qw m.amount.toNat 8
 | .hash=>strOfNums m.hash
 | .expiry=>qw m.expiry.toNat 4
 | .number=>qw m.number.toNat 2
theorem Fld.put_size(x:Fld)(m:MsgV)(h:m.hash.length=32):(x.put m).size≤32:=by
 cases x
 case hash=>show (strOfNums m.hash).size≤32;rw[strOfNums_size,h];exact Nat.le_refl _
 all_goals (unfold Fld.put;simp only[qat];decide)
def qev(xs:List Fld)(m:MsgV)(s:ByteArray):ByteArray:=xs.foldl (fun s x=>s++x.put m) s
theorem q2k{xs:List Fld}{i:Nat}{x:Fld}(h:xs[i]? = some x)(m:MsgV)(s:ByteArray):qev (xs.take (i+1)) m s=qev (xs.take i) m s++x.put m:=by
 unfold qev;rw[List.take_add_one,h,List.foldl_append];rfl
theorem qjt(m:MsgV)(h:m.hash.length=32):∀(xs:List Fld) (s:ByteArray),(qev xs m s).size≤s.size+32*xs.length
 | [],s=>Nat.le_refl _
 | x::xs,s=>by
  have f:=qjt m h xs (s++x.put m);have i:=x.put_size m h;have e:qev (x::xs) m s=qev xs m (s++x.put m):=rfl;rw[ByteArray.size_append] at f;rw[e,List.length_cons];omega
def qhi(W:Nat):Value:= .agg #[.pointer (some ⟨W,0,none⟩),.pointer none]
theorem qe3(w:World):Calls Tryz.prog 135 #[.int .i64 0] w (qa2 (.tuple #[]) w):=by
 go_enter Tryz.func135,Tryz.ntmps135;go_wp2_with fail;go_end0;exact⟨rfl,Q.refl _⟩
attribute [local go_sem ↓ high] zl qag qaj qar
attribute [local go_sem] qbl qcl qcn qdm qx
theorem qo3(F:FuncId)(o A p q W n:Nat)(x:Nat)(m:MsgV)(s:ByteArray)(w:World)(hE:∀args w,(callFunc F args).run Tryz.prog w = .ok (.enter F args) w)(hF:∀w,Calls Tryz.prog F #[.pointer (some ⟨A,0,none⟩)] w (qa2 (.pointer (some ⟨A,o,none⟩)) w))(V:w.cell? ⟨p,0,none⟩=some (.func (.func F) #[] #[]))(X:w.cell? ⟨q,0,none⟩=some (.int .i64 (n:Int)))(S:MsB w A m)(ho:m.cells[o]? = some (.int .u64 (x:Int)))(T:Wr w W s)(U:1≤n∧n≤8)(hx:x<2 ^ (8*n))(a8:x<18446744073709551616)(hs:s.size≤1073741824) :
  Calls Tryz.prog 200 #[qhi W,.pointer (some ⟨A,0,none⟩),.pointer (some ⟨p,0,none⟩),.pointer (some ⟨q,0,none⟩)] w fun e w'=>e = .returned (.tuple #[])∧Upd (fun k=>k=W) w w'∧Wr w' W (s++qw x n):=by
 unfold qhi
 have b3:(x:Int)<18446744073709551616:=by omega
 have a7:IntKind.u64.wrap (x:Int)=x:=qgs (by omega) (by omega)
 go_enter Tryz.func200,Tryz.ntmps200
 go_upto_region 1 with fail
 have i:qq w (w.alloc (.cells #[.pointer (some ⟨W,0,none⟩),.pointer none] 234)):=(Upd.refl _ _).alloc _
 have I:=qj w (.cells #[.pointer (some ⟨W,0,none⟩),.pointer none] 234)
 generalize w.alloc (.cells #[.pointer (some ⟨W,0,none⟩),.pointer none] 234)=w1 at i I ⊢
 generalize w.heap.size=B at I ⊢
 have L:=i.cell V (fun h=>h)
 have H:=i.cell X (fun h=>h)
 have N:=qb (S.new i)
 have K:=qb I
 have v:=qb (T.new i)
 have O:=qb i
 clear I V S T X i
 go_wp2_with fail
 refine(hF w1).mono ?_
 rintro e J ⟨rfl,r⟩
 have z:=(qa N).new (r.upd _)
 have d0:J.cell? ⟨B,0,none⟩=some (.pointer (some ⟨W,0,none⟩)):=r.cell (qg (qa K) 0)
 have d1:J.cell? ⟨B,1,none⟩=some (.pointer none):=r.cell (qg (qa K) 1)
 have co:J.cell? ⟨A,o,none⟩=some (.int .u64 (x:Int)):=by rw[qg z.at_,List.getElem?_toArray];exact ho
 have a6:=r.cell H
 have C:=(qa v).new (r.upd _)
 have P:=qb ((qa O).trans (r.upd _))
 have f:=fun w' (n':qq J w')=>qds W x n s w' (C.new n') U.1 U.2 hx hs
 clear z r L K N v O C H
 go_wp2_with (with_reducible first|(first|refine' tw1 (qh ?_) ?_|refine' tw2 (qh ?_) ?_);rotate_left|refine' tw3 (qh ?_)|rfl|apply tn|refine' tw4 ?_)
 refine(f _ ((Upd.refl _ _).drew)).mono ?_
 rintro e w3 ⟨rfl,Y,E⟩
 have R:=qb (((qa P).drew.mono (fun _ _ h=>h.elim)).trans Y)
 have v:=qb E
 clear f P Y E
 go_wp2_with (with_reducible first|(first|refine' tw1 (qh ?_) ?_|refine' tw2 (qh ?_) ?_);rotate_left|refine' tw3 (qh ?_)|rfl|apply tn|refine' tw4 ?_)
 refine(qe3 _).mono ?_
 rintro e w4 ⟨rfl,M⟩
 have Z:=qb ((qa R).trans (M.upd _))
 have v:=qb ((qa v).new (M.upd _))
 clear R M
 go_wp2_with (with_reducible first|(first|refine' tw1 (qh ?_) ?_|refine' tw2 (qh ?_) ?_);rotate_left|refine' tw3 (qh ?_)|rfl|apply tn|refine' tw4 ?_)
 go_end0
 exact⟨rfl,qa Z,qa v⟩
theorem qo2(F:FuncId)(o A p q W n:Nat)(x:Nat)(m:MsgV)(s:ByteArray)(w:World)(hE:∀args w,(callFunc F args).run Tryz.prog w = .ok (.enter F args) w)(hF:∀w,Calls Tryz.prog F #[.pointer (some ⟨A,0,none⟩)] w (qa2 (.pointer (some ⟨A,o,none⟩)) w))(V:w.cell? ⟨p,0,none⟩=some (.func (.func F) #[] #[]))(X:w.cell? ⟨q,0,none⟩=some (.int .i64 (n:Int)))(S:MsB w A m)(ho:m.cells[o]? = some (.int .i64 (x:Int)))(T:Wr w W s)(U:1≤n∧n≤8)(hx:x<2 ^ (8*n))(a8:x<18446744073709551616)(hs:s.size≤1073741824) :
  Calls Tryz.prog 201 #[qhi W,.pointer (some ⟨A,0,none⟩),.pointer (some ⟨p,0,none⟩),.pointer (some ⟨q,0,none⟩)] w fun e w'=>e = .returned (.tuple #[])∧Upd (fun k=>k=W) w w'∧Wr w' W (s++qw x n):=by
 unfold qhi
 have b3:(x:Int)<18446744073709551616:=by omega
 have a7:IntKind.u64.wrap (x:Int)=x:=qgs (by omega) (by omega)
 go_enter Tryz.func201,Tryz.ntmps201
 go_upto_region 1 with fail
 have i:qq w (w.alloc (.cells #[.pointer (some ⟨W,0,none⟩),.pointer none] 234)):=(Upd.refl _ _).alloc _
 have I:=qj w (.cells #[.pointer (some ⟨W,0,none⟩),.pointer none] 234)
 generalize w.alloc (.cells #[.pointer (some ⟨W,0,none⟩),.pointer none] 234)=w1 at i I ⊢
 generalize w.heap.size=B at I ⊢
 have L:=i.cell V (fun h=>h)
 have H:=i.cell X (fun h=>h)
 have N:=qb (S.new i)
 have K:=qb I
 have v:=qb (T.new i)
 have O:=qb i
 clear I V S T X i
 go_wp2_with fail
 refine(hF w1).mono ?_
 rintro e J ⟨rfl,r⟩
 have z:=(qa N).new (r.upd _)
 have d0:J.cell? ⟨B,0,none⟩=some (.pointer (some ⟨W,0,none⟩)):=r.cell (qg (qa K) 0)
 have d1:J.cell? ⟨B,1,none⟩=some (.pointer none):=r.cell (qg (qa K) 1)
 have co:J.cell? ⟨A,o,none⟩=some (.int .i64 (x:Int)):=by rw[qg z.at_,List.getElem?_toArray];exact ho
 have a6:=r.cell H
 have C:=(qa v).new (r.upd _)
 have P:=qb ((qa O).trans (r.upd _))
 have f:=fun w' (n':qq J w')=>qds W x n s w' (C.new n') U.1 U.2 hx hs
 clear z r L K N v O C H
 go_wp2_with (with_reducible first|(first|refine' tw1 (qh ?_) ?_|refine' tw2 (qh ?_) ?_);rotate_left|refine' tw3 (qh ?_)|rfl|apply tn|refine' tw4 ?_)
 refine(f _ ((Upd.refl _ _).drew)).mono ?_
 rintro e w3 ⟨rfl,Y,E⟩
 have R:=qb (((qa P).drew.mono (fun _ _ h=>h.elim)).trans Y)
 have v:=qb E
 clear f P Y E
 go_wp2_with (with_reducible first|(first|refine' tw1 (qh ?_) ?_|refine' tw2 (qh ?_) ?_);rotate_left|refine' tw3 (qh ?_)|rfl|apply tn|refine' tw4 ?_)
 refine(qe3 _).mono ?_
 rintro e w4 ⟨rfl,M⟩
 have Z:=qb ((qa R).trans (M.upd _))
 have v:=qb ((qa v).new (M.upd _))
 clear R M
 go_wp2_with (with_reducible first|(first|refine' tw1 (qh ?_) ?_|refine' tw2 (qh ?_) ?_);rotate_left|refine' tw3 (qh ?_)|rfl|apply tn|refine' tw4 ?_)
 go_end0
 exact⟨rfl,qa Z,qa v⟩
theorem qx7(F:FuncId)(o A p q W n:Nat)(x:Nat)(m:MsgV)(s:ByteArray)(w:World)(hE:∀args w,(callFunc F args).run Tryz.prog w = .ok (.enter F args) w)(hF:∀w,Calls Tryz.prog F #[.pointer (some ⟨A,0,none⟩)] w (qa2 (.pointer (some ⟨A,o,none⟩)) w))(V:w.cell? ⟨p,0,none⟩=some (.func (.func F) #[] #[]))(X:w.cell? ⟨q,0,none⟩=some (.int .i64 (n:Int)))(S:MsB w A m)(ho:m.cells[o]? = some (.int .u32 (x:Int)))(T:Wr w W s)(U:1≤n∧n≤8)(hx:x<2 ^ (8*n))(a8:x<18446744073709551616)(hs:s.size≤1073741824) :
  Calls Tryz.prog 214 #[qhi W,.pointer (some ⟨A,0,none⟩),.pointer (some ⟨p,0,none⟩),.pointer (some ⟨q,0,none⟩)] w fun e w'=>e = .returned (.tuple #[])∧Upd (fun k=>k=W) w w'∧Wr w' W (s++qw x n):=by
 unfold qhi
 have b3:(x:Int)<18446744073709551616:=by omega
 have a7:IntKind.u64.wrap (x:Int)=x:=qgs (by omega) (by omega)
 go_enter Tryz.func214,Tryz.ntmps214
 go_upto_region 1 with fail
 have i:qq w (w.alloc (.cells #[.pointer (some ⟨W,0,none⟩),.pointer none] 234)):=(Upd.refl _ _).alloc _
 have I:=qj w (.cells #[.pointer (some ⟨W,0,none⟩),.pointer none] 234)
 generalize w.alloc (.cells #[.pointer (some ⟨W,0,none⟩),.pointer none] 234)=w1 at i I ⊢
 generalize w.heap.size=B at I ⊢
 have L:=i.cell V (fun h=>h)
 have H:=i.cell X (fun h=>h)
 have N:=qb (S.new i)
 have K:=qb I
 have v:=qb (T.new i)
 have O:=qb i
 clear I V S T X i
 go_wp2_with fail
 refine(hF w1).mono ?_
 rintro e J ⟨rfl,r⟩
 have z:=(qa N).new (r.upd _)
 have d0:J.cell? ⟨B,0,none⟩=some (.pointer (some ⟨W,0,none⟩)):=r.cell (qg (qa K) 0)
 have d1:J.cell? ⟨B,1,none⟩=some (.pointer none):=r.cell (qg (qa K) 1)
 have co:J.cell? ⟨A,o,none⟩=some (.int .u32 (x:Int)):=by rw[qg z.at_,List.getElem?_toArray];exact ho
 have a6:=r.cell H
 have C:=(qa v).new (r.upd _)
 have P:=qb ((qa O).trans (r.upd _))
 have f:=fun w' (n':qq J w')=>qds W x n s w' (C.new n') U.1 U.2 hx hs
 clear z r L K N v O C H
 go_wp2_with (with_reducible first|(first|refine' tw1 (qh ?_) ?_|refine' tw2 (qh ?_) ?_);rotate_left|refine' tw3 (qh ?_)|rfl|apply tn|refine' tw4 ?_)
 refine(f _ ((Upd.refl _ _).drew)).mono ?_
 rintro e w3 ⟨rfl,Y,E⟩
 have R:=qb (((qa P).drew.mono (fun _ _ h=>h.elim)).trans Y)
 have v:=qb E
 clear f P Y E
 go_wp2_with (with_reducible first|(first|refine' tw1 (qh ?_) ?_|refine' tw2 (qh ?_) ?_);rotate_left|refine' tw3 (qh ?_)|rfl|apply tn|refine' tw4 ?_)
 refine(qe3 _).mono ?_
 rintro e w4 ⟨rfl,M⟩
 have Z:=qb ((qa R).trans (M.upd _))
 have v:=qb ((qa v).new (M.upd _))
 clear R M
 go_wp2_with (with_reducible first|(first|refine' tw1 (qh ?_) ?_|refine' tw2 (qh ?_) ?_);rotate_left|refine' tw3 (qh ?_)|rfl|apply tn|refine' tw4 ?_)
 go_end0
 exact⟨rfl,qa Z,qa v⟩
theorem qu5(A W:Nat)(m:MsgV)(s:ByteArray)(w:World)(E:MsB w A m)(F:Wr w W s)(L:s.size≤1073741824) :
  Calls Tryz.prog 175 #[qhi W,.pointer (some ⟨A,0,none⟩)] w fun e w'=>e = .returned (.tuple #[])∧Upd (fun k=>k=W) w w'∧Wr w' W (s++strOfNums m.hash):=by
 unfold qhi
 go_enter Tryz.func175,Tryz.ntmps175
 go_upto_region 2 with fail
 have z:qq w (w.alloc (.cells #[.pointer (some ⟨W,0,none⟩),.pointer none] 234)):=(Upd.refl _ _).alloc _
 have v:=qj w (.cells #[.pointer (some ⟨W,0,none⟩),.pointer none] 234)
 generalize w.alloc (.cells #[.pointer (some ⟨W,0,none⟩),.pointer none] 234)=w1 at z v ⊢
 generalize w.heap.size=B at v ⊢
 have N:w1.cell? ⟨B,0,none⟩=some (.pointer (some ⟨W,0,none⟩)):=qg v 0
 have O:w1.cell? ⟨B,1,none⟩=some (.pointer none):=qg v 1
 have i:=E.new z
 have q:=F.new z
 obtain⟨-,-,-,-,-,-,R⟩:=i.cells
 have K:=i.len
 have C:=qb z
 have f:=fun w' (M:qq w1 w')=>qt9 W m.hash s w' (q.new M) K L
 have e:(m.hash.map (Value.int .u8)).toArray=(qu m.hash).toArray:=rfl
 rw[e] at f
 clear v E F i q z e
 generalize qu m.hash=P at *
 go_wp2_with (with_reducible first|(first|refine' tw1 (qh ?_) ?_|refine' tw2 (qh ?_) ?_);rotate_left|refine' tw3 (qh ?_)|rfl|apply tn|refine' tw4 ?_)
 refine(f _ ((Upd.refl _ _).drew)).mono ?_
 rintro e S ⟨rfl,H,r⟩
 have J:=qb (((qa C).drew.mono (fun _ _ h=>h.elim)).trans H)
 have I:=qb r
 clear f C H r
 go_wp2_with (with_reducible first|(first|refine' tw1 (qh ?_) ?_|refine' tw2 (qh ?_) ?_);rotate_left|refine' tw3 (qh ?_)|rfl|apply tn|refine' tw4 ?_)
 go_end0
 exact⟨rfl,qa J,qa I⟩
structure PutOk(m:MsgV):Prop where
 ok:MsgOk m
 expiry:0≤m.expiry∧m.expiry<4294967296
 number:0≤m.number∧m.number<65536
theorem qst(x:Fld)(base A W:Nat)(m:MsgV)(v:Value)(s:ByteArray)(w:World)(C:qhq base w v x)(f:MsB w A m)(O:PutOk m)(E:Wr w W s)(H:s.size≤1073741824) :
  ∃F z,v = .func (.func F) #[] z∧(∀args w,(callFunc F args).run Tryz.prog w = .ok (.enter F args) w)∧Calls Tryz.prog F (#[qhi W,.pointer (some ⟨A,0,none⟩)]++z) w fun e w'=>e = .returned (.tuple #[])∧Upd (fun k=>k=W) w w'∧Wr w' W (s++x.put m):=by
 obtain⟨T,L,N,K,U,S,-,-⟩:=O.ok
 have M:=O.expiry
 have P:=O.number
 cases x with
 | ch =>
  obtain⟨p,q,rfl,I,J,i,r⟩:=C;refine⟨_,_,rfl,enters_of Tryz.func214 (by kernel_rfl) rfl,?_⟩;exact qx7 203 1 A p q W 4 m.ch.toNat m s w (enters_of Tryz.func203 (by kernel_rfl) rfl) (qno A) i r f (by rw[Int.toNat_of_nonneg L.1];rfl) E (by decide) (by show m.ch.toNat<4294967296;omega) (by omega) H
 | id =>
  obtain⟨p,q,rfl,I,J,i,r⟩:=C;refine⟨_,_,rfl,enters_of Tryz.func200 (by kernel_rfl) rfl,?_⟩;exact qo3 169 2 A p q W 8 m.id.toNat m s w (enters_of Tryz.func169 (by kernel_rfl) rfl) (qnk A) i r f (by rw[Int.toNat_of_nonneg N.1];rfl) E (by decide) (by show m.id.toNat<18446744073709551616;omega) (by omega) H
 | amount =>
  obtain⟨p,q,rfl,I,J,i,r⟩:=C;refine⟨_,_,rfl,enters_of Tryz.func200 (by kernel_rfl) rfl,?_⟩;exact qo3 170 3 A p q W 8 m.amount.toNat m s w (enters_of Tryz.func170 (by kernel_rfl) rfl) (qnl A) i r f (by rw[Int.toNat_of_nonneg K.1];rfl) E (by decide) (by show m.amount.toNat<18446744073709551616;omega) (by omega) H
 | expiry =>
  obtain⟨p,q,rfl,I,J,i,r⟩:=C;refine⟨_,_,rfl,enters_of Tryz.func201 (by kernel_rfl) rfl,?_⟩;have R:m.cells[36]? = some (.int .i64 m.expiry):=by
   have:=f.cells.2.2.2.2.1;rwa [qg f.at_,List.getElem?_toArray] at this
  exact qo2 172 36 A p q W 4 m.expiry.toNat m s w (enters_of Tryz.func172 (by kernel_rfl) rfl) (qnm A) i r f (by rw[Int.toNat_of_nonneg M.1];exact R) E (by decide) (by show m.expiry.toNat<4294967296;omega) (by omega) H
 | number =>
  obtain⟨p,q,rfl,I,J,i,r⟩:=C;refine⟨_,_,rfl,enters_of Tryz.func201 (by kernel_rfl) rfl,?_⟩;have R:m.cells[37]? = some (.int .i64 m.number):=by
   have:=f.cells.2.2.2.2.2.1;rwa [qg f.at_,List.getElem?_toArray] at this
  exact qo2 173 37 A p q W 2 m.number.toNat m s w (enters_of Tryz.func173 (by kernel_rfl) rfl) (qnn A) i r f (by rw[Int.toNat_of_nonneg P.1];exact R) E (by decide) (by show m.number.toNat<65536;omega) (by omega) H
 | hash =>
  have C:v=_:=C;subst C;exact⟨_,_,rfl,enters_of Tryz.func175 (by kernel_rfl) rfl,qu5 A W m s w f E H⟩
theorem qs5(base A W:Nat)(v:Value)(xs:List Fld)(m:MsgV)(s:ByteArray)(w0 w:World)(hv:FldsO base w0 v xs)(h0:qq w0 w)(hA:MsB w A m)(hm:PutOk m)(hW:Wr w W s)(Z:A≠W)(b5:w0.heap.size≤W)(c0:xs.length≤100)(hs:s.size≤1000000) :
  Calls Tryz.prog 139 #[qhi W,v,.pointer (some ⟨A,0,none⟩)] w fun e w'=>e = .returned (.tuple #[])∧Upd (fun k=>k=W) w w'∧Wr w' W (qev xs m s):=by
 obtain⟨vs,r,b8,N⟩:=hv
 obtain⟨va,b4,S⟩:=qaf r
 have q:∀(i:Nat) (u:Value),vs[i]? = some u→∃g,va=some ⟨g,0,none⟩∧base≤g∧w0.cell? ⟨g,i,none⟩=some u:=by
  intro i u I;have P:=(List.getElem?_eq_some_iff.1 I).1;rcases r.2 with ⟨e,e0⟩ | ⟨g,cap,Y,e,H,hg,_,_,hs,ht⟩
  ·omega
  ·rw[S] at e;injection e with e1;refine⟨g,e1,H,?_⟩;rw[qg hg];have:Y.toList[i]? = some u:=by
    rw[←I,←ht,List.getElem?_take_of_lt (by omega)]
   rwa [Array.getElem?_toList] at this
 subst S
 clear r
 have E:=qb q
 have U:=qb N
 clear q N
 unfold qhi
 go_enter Tryz.func139,Tryz.ntmps139
 go_upto_region 1 with fail
 have J:qq w (w.alloc (.cells #[.pointer (some ⟨W,0,none⟩),.pointer none] 234)):=(Upd.refl _ _).alloc _
 have H:=qj w (.cells #[.pointer (some ⟨W,0,none⟩),.pointer none] 234)
 have a6:=hW.lt
 generalize w.alloc (.cells #[.pointer (some ⟨W,0,none⟩),.pointer none] 234)=w1 at J H ⊢
 have L:W≠w.heap.size:=by omega
 generalize w.heap.size=B at H L ⊢
 have HB:=qb H
 have T:=qb (hA.new J)
 have X:=qb (hW.new J)
 have N1:=qb J
 have N0:=qb (h0.trans J)
 have b9:(xs.length:Int)≤100:=by omega
 clear H hA hW J a6 h0
 go_wp2_with fail
 go_loopw [7,10] (fun _ iv wr=>∃i:Nat,iv = .int .i64 (i:Int)∧i≤xs.length∧Hid (Wr wr W (qev (xs.take i) m s))∧Upd (fun k=>k=W) w1 wr) (fun _ iv _=>xs.length-(intOf iv).toNat)
 case atStart=>exact⟨0,rfl,Nat.zero_le _,X,Upd.refl _ _⟩
 case round =>
  obtain⟨i,rfl,hi,hM,K⟩:=hrel;obtain⟨C,rfl⟩:∃C:World,C=wr:=⟨_,rfl⟩;by_cases P:i<xs.length
  ·obtain⟨x,hx⟩:∃x,xs[i]? = some x:=⟨_,List.getElem?_eq_getElem P⟩;obtain⟨u,I⟩:∃u,vs[i]? = some u:=⟨_,List.getElem?_eq_getElem (by omega)⟩;obtain⟨g,rfl,b6,hc⟩:=qa E i u I;have hf:=qa U i x u hx I;have nq:qq w0 C:=(qa N0).then K (fun k hk e=>by omega);have O:qhq base C u x:=hf.new nq;have a7:C.cell? ⟨g,i,none⟩=some u:=nq.cell hc (fun h=>h);have z:=K.old (qa HB) (fun e=>L e.symm);have rP:=qas z 2 rfl;have d0:C.cell? ⟨B,0,none⟩=some (.pointer (some ⟨W,0,none⟩)):=qg z 0;have d1:C.cell? ⟨B,1,none⟩=some (.pointer none):=qg z 1;have R:=qjt m hm.ok.len (xs.take i) s;rw[List.length_take] at R;obtain⟨F,b3,rfl,hE,f⟩:=qst x base A W m u _ C O ((qa T).upd K Z) hm (qa hM) (by omega);rw[←q2k hx] at f;have b7:(i:Int)<(xs.length:Int):=by omega
   unfold qhi at f;clear hf O hc z hx I R nq;go_wp2_with fail;refine f.mono ?_;rintro e w3 ⟨rfl,u3,M⟩;have a8:=K.trans u3;have V:=qb M;clear f rP d0 d1 a7 hE M u3 K;go_wp2_with fail;go_roundw
   case rel=>exact⟨i+1,by go_num,by omega,V,a8⟩
   case measure=>simp[intOf];omega
  ·obtain rfl:i=xs.length:=by omega
   rw[List.take_length] at hM;go_wp2_with fail;go_end0;exact⟨rfl,((qa N1).mono (fun _ _ h=>h.elim)).trans K,qa hM⟩
end
section
open Go.RowKit
def taF(x:Value):Sem Value:=Instr.typeAssert x 20 265 true
theorem qzs(x:Value):Instr.typeAssert x 20 265 true=taF x:=rfl
theorem zcg(w:World):(taF .nilIface).run Tryz.prog w = .ok (.tuple #[.agg #[.int .i64 0],.bool false]) w:=by kernel_rfl
attribute [local go_sem ↓ high] qzs
attribute [local go_sem] zcg
theorem qvv(p:Addr)(w:World) :
  CallsD Tryz.prog 165 #[.pointer (some p)] .returning w fun e q w'=>e = .returned (.tuple #[])∧q = .returning∧qq w w':=by
 refine callsD_of_wpS Tryz.func165 rfl fun f cs i=> ?_
 apply wpS_seq
 apply wpS_region
 simp[wpOpsS,go_sem,recoverD,i,Tryz.ntmps165,Exit.thenS]
 have m:qq w (w.alloc (.cells #[.int .i64 0] 265)):=(Upd.refl _ _).alloc _
 generalize w.alloc (.cells #[.int .i64 0] 265)=w1 at m ⊢
 generalize w.heap.size=B
 apply wpS_seq
 apply wpS_region
 simp[wpOpsS,go_sem,Exit.thenS]
 refine wpS_cond (t:=false) (by simp[Act.eval,Array.replicate]) ?_
 simp only[Bool.false_eq_true,if_false]
 refine wpS_of_wp (wp_skip ?_)
 cases f
 simp_all [bodyPostS,results,Tryz.results165]
def qyw(w:World)(b n:Nat)(F:Nat→FuncId)(f:Nat→Array Value):Prop:=∀i,i<n→w.cell? ⟨b,i,none⟩=some (.func (.func (F i)) #[] (f i))
theorem q90(b n base:Nat)(F:Nat→FuncId)(m:Nat→Array Value)(T:Nat→Prop)(C:Nat→World→Prop)(w:World)(hn:n≤100)
  (z:qyw w b n F m) (hT:∀k,T k→k<base) (hb:base≤b) (W:base≤w.heap.size) (a6:b<w.heap.size)
  (K:∀i w w',C i w→Upd (fun k=>base≤k) w w'→C i w')
  (hs:∀i,i<n→∀w',C i w'→(∀args w,(callFunc (F i) args).run Tryz.prog w = .ok (.enter (F i) args) w)∧Calls Tryz.prog (F i) (m i) w' fun e v=>e = .returned (.tuple #[])∧Upd T w' v∧C (i+1) v)
  (h0:C 0 w) :
  Calls Tryz.prog 132 #[.slice (some ⟨b,0,none⟩) n n] w fun e w'=>e = .returned (.int .i64 0)∧Upd T w w'∧C n w':=by
 have a8:∀(fn:Fn) (first cap:Array Value) (w:World),(Instr.makeFunc fn first cap).run Tryz.prog w = .ok (.func fn first cap) w:=fun _ _ _ _=>rfl
 have b3:(n:Int)≤100:=by omega
 go_enter_defers Tryz.func132,Tryz.ntmps132
 go_upto_region 1 with fail
 have N:qq w (w.alloc (.cells #[.int .i64 0] 26)):=(Upd.refl _ _).alloc _
 have r:=qj w (.cells #[.int .i64 0] 26)
 have P:C 0 (w.alloc (.cells #[.int .i64 0] 26)):=K 0 w _ h0 (N.mono (fun _ _ h=>h.elim))
 generalize w.alloc (.cells #[.int .i64 0] 26)=w1 at N r P ⊢
 have M:base≤w.heap.size∧b≠w.heap.size:=⟨W,by omega⟩
 generalize L:w.heap.size=E at r M ⊢
 have O:=qb L
 clear L
 have HE:=qb r
 have H1:=qb P
 have HR:=qb z
 have Z:=qb N
 clear r P z N h0
 go_wp2_with fail
 go_loopw [8] (fun Y wr=>∃i:Nat,Y = .int .i64 (i:Int)∧i≤n∧Hid (C i wr)∧Upd T w1 wr) (fun Y _=>n-(intOf Y).toNat)
 case atStart=>exact⟨0,rfl,Nat.zero_le _,H1,Upd.refl _ _⟩
 case round =>
  obtain⟨i,rfl,hi,R,u⟩:=hrel;obtain⟨H,rfl⟩:∃H:World,H=wr:=⟨_,rfl⟩;by_cases J:i<n
  ·have a7:(i:Int)<(n:Int):=by omega
   obtain⟨X,q⟩:=hs i J H (qa R);have hc:=u.cell ((qa Z).cell (qa HR i J) (fun h=>h)) (fun h=>by have h:T b:=h;have:=hT b h;omega);generalize F i=Fi at *
   generalize m i=ci at *
   clear R;go_wp2_with fail;refine q.mono ?_;rintro e w3 ⟨rfl,u3,I⟩;have I:=qb I;have u4:=u.trans u3;clear hc X q u u3;go_wp2_with fail;go_roundw
   case rel=>exact⟨i+1,by go_num,J,I,u4⟩
   case measure=>simp[intOf];omega
  ·obtain rfl:i=n:=by omega
   have r:=u.old (qa HE) (fun h=>by have h:T E:=h;have:=hT E h;omega);have V:=r;have f0:=qv r 0;have c0:=qg r 0;have hU:=qb u;clear u r;go_wp2_with fail;have u5:Upd (fun k=>k=E) H (H.setCell ⟨E,0,none⟩ (.int .i64 0)):=(Upd.refl _ _).set1 _ _;have c5:(H.setCell ⟨E,0,none⟩ (.int .i64 0)).cell? ⟨E,0,none⟩=some (.int .i64 0):=qg (qad (V) 0 (.int .i64 0)) 0;have S:=K _ _ _ (qa R) (u5.mono (fun k _ e=>by rw[e];exact M.1));have U5:Upd T w (H.setCell ⟨E,0,none⟩ (.int .i64 0)):=(((qa Z).mono (fun _ _ h=>h.elim)).trans (qa hU)).then u5 (fun k hk e=>by have:=qa O;omega);generalize H.setCell ⟨E,0,none⟩ (.int .i64 0)=w5 at *
   refine leaves_cons (f:=165) (args:=#[.pointer (some ⟨E,0,none⟩)]) (by simp) (by simp[go_sem]) ?_;refine(qvv ⟨E,0,none⟩ _).mono ?_;rintro e u' v ⟨rfl,rfl,n⟩;have c6:=n.cell c5 (fun h=>h);have U:=K _ _ _ S (n.mono (fun _ _ h=>h.elim));have U6:Upd T w v:=U5.trans (n.mono (fun _ _ h=>h.elim));simp[Leaves,settle,results,Tryz.results132,go_sem,c6];exact⟨U6,U⟩
end
section
open Go.RowKit
theorem FldsO.upd{base:Nat}{w w':World}{v:Value}{xs:List Fld}{S:Nat→Prop}(h:FldsO base w v xs)(u:Upd S w w')(z:∀k,base≤k→¬S k):FldsO base w' v xs:=by
 obtain⟨K,f,J,H⟩:=h;refine⟨K,⟨f.1,?_⟩,J,fun i x a E F=>(H i x a E F).upd u z⟩;rcases f.2 with h | ⟨g,cap,m,C,q,I,r⟩
 ·exact .inl h
 ·exact .inr ⟨g,cap,m,C,q,u.old I (z g q),r⟩
theorem q4x(V A W:Nat)(m:MsgV)(s:ByteArray)(w:World)(N:w.cell? ⟨V,0,none⟩=some (.pointer (some ⟨W,0,none⟩)))(C:MsB w A m)(F:0≤m.kind∧m.kind<256)(E:Wr w W s)(K:s.size≤1073741824) :
  Calls Tryz.prog 152 #[.pointer (some ⟨V,0,none⟩),.pointer (some ⟨A,0,none⟩)] w fun e w'=>e = .returned (.tuple #[])∧Upd (fun k=>k=W) w w'∧Wr w' W (s++qw m.kind.toNat 1):=by
 have J:=C.cells.1
 obtain⟨k,i⟩:=Int.eq_ofNat_of_zero_le F.1
 rw[i] at J
 have L:IntKind.u64.wrap (k:Int)=k:=qgs (by omega) (by omega)
 have f:=fun w' (M:qq w w')=>qds W k 1 s w' (E.new M) (by decide) (by decide) (by show k<256;omega) K
 rw[i,Int.toNat_natCast]
 clear C E i F
 go_enter Tryz.func152,Tryz.ntmps152
 go_wp2_with (with_reducible first|(first|refine' tw1 (qh ?_) ?_|refine' tw2 (qh ?_) ?_);rotate_left|refine' tw3 (qh ?_)|rfl|apply tn|refine' tw4 ?_)
 refine(f _ (Upd.refl _ _)).mono ?_
 rintro e O ⟨rfl,H,q⟩
 have z:=qb H
 have r:=qb q
 clear f H q
 go_wp2_with (with_reducible first|(first|refine' tw1 (qh ?_) ?_|refine' tw2 (qh ?_) ?_);rotate_left|refine' tw3 (qh ?_)|rfl|apply tn|refine' tw4 ?_)
 refine(qe3 _).mono ?_
 rintro e P ⟨rfl,v⟩
 have I:=qb ((qa z).trans (v.upd _))
 have r:=qb ((qa r).new (v.upd _))
 clear z v
 go_wp2_with (with_reducible first|(first|refine' tw1 (qh ?_) ?_|refine' tw2 (qh ?_) ?_);rotate_left|refine' tw3 (qh ?_)|rfl|apply tn|refine' tw4 ?_)
 go_end0
 exact⟨rfl,qa I,qa r⟩
theorem q4y(base V L A W:Nat)(v:Value)(xs:List Fld)(m:MsgV)(s:ByteArray)(w0 w:World)(U:w.cell? ⟨V,0,none⟩=some (.pointer (some ⟨W,0,none⟩)))(T:w.cell? ⟨L,0,none⟩=some v)(C:FldsO base w0 v xs)(I:qq w0 w)(J:MsB w A m)(R:PutOk m)(K:Wr w W s)(r:A≠W)(z:w0.heap.size≤W)(F:xs.length≤100)(S:s.size≤1000000) :
  Calls Tryz.prog 153 #[.pointer (some ⟨V,0,none⟩),.pointer (some ⟨L,0,none⟩),.pointer (some ⟨A,0,none⟩)] w fun e w'=>e = .returned (.tuple #[])∧Upd (fun k=>k=W) w w'∧Wr w' W (qev xs m s):=by
 obtain⟨X,N,E⟩:∃a c,v = .slice a xs.length c:=by
  obtain⟨Y,q,-⟩:=C;exact qaf q
 subst E
 have f:=fun w' (H:qq w w')=>qs5 base A W _ xs m s w0 w' C (I.trans H) (J.new H) R (K.new H) r z F S
 unfold qhi at f
 clear C J K I
 go_enter Tryz.func153,Tryz.ntmps153
 go_wp2_with (with_reducible first|(first|refine' tw1 (qh ?_) ?_|refine' tw2 (qh ?_) ?_);rotate_left|refine' tw3 (qh ?_)|rfl|apply tn|refine' tw4 ?_)
 refine(f _ (Upd.refl _ _)).mono ?_
 rintro e Z ⟨rfl,M,i⟩
 have P:=qb M
 have O:=qb i
 clear f M i
 go_wp2_with (with_reducible first|(first|refine' tw1 (qh ?_) ?_|refine' tw2 (qh ?_) ?_);rotate_left|refine' tw3 (qh ?_)|rfl|apply tn|refine' tw4 ?_)
 go_end0
 exact⟨rfl,qa P,qa O⟩
def qio(xs:List Fld)(m:MsgV):ByteArray:=qev xs m (qw m.kind.toNat 1)
attribute [local go_sem ↓ high] qz zb ze
attribute [local go_sem] qax qay qa4 qx
theorem qwm(m:MsgV)(xs:List Fld)(hm:PutOk m)(hk:fieldsOf m.kind=some xs)(b8:0≤m.kind∧m.kind<256)(c1:xs.length≤100)(a6:qam m=true)(w:World) :
  Calls Tryz.prog 115 #[.agg m.cells.toArray] w (qa7 (.tuple #[.string (qio xs m),.int .i64 0]) w):=by
 have c3:∀(fn:Fn) (first cap:Array Value) (w:World),(Instr.makeFunc fn first cap).run Tryz.prog w = .ok (.func fn first cap) w:=fun _ _ _ _=>rfl
 have J:=fun w'=>qh6 m hm.ok w'
 rw[a6] at J
 have Z:=fun w'=>qj9 m.kind xs hk w'
 go_enter Tryz.func115,Tryz.ntmps115
 go_upto_region 1 with fail
 have O:=zt w m hm.ok.len
 have n1:qq w (w.alloc (.cells m.cells.toArray 101)):=(Upd.refl _ _).alloc _
 generalize w.alloc (.cells m.cells.toArray 101)=w1 at n1 O ⊢
 generalize w.heap.size=A at O ⊢
 have rA:=O.row
 have E:=qb O
 have N1:=qb n1
 clear O n1
 go_wp2_with fail
 refine(J w1).mono ?_
 rintro e w2 ⟨rfl,n2⟩
 have F:=(qa E).new n2
 have c0:=F.cells.1
 have E:=qb F
 have N2:=qb ((qa N1).trans n2)
 clear rA J n2 F N1
 go_wp2_with fail
 refine(Z w2).mono ?_
 rintro e f ⟨v,rfl,n3,M⟩
 obtain⟨va,vc,rfl⟩:∃a c,v = .slice a xs.length c:=by
  obtain⟨vs,a7,-⟩:=M;exact qaf a7
 have P:=(qa E).new n3
 have HF:=qb M
 have b9:=n3.size
 have E:=qb P
 have N3:=qb ((qa N2).trans n3)
 clear Z n3 M P N2 c0
 go_upto_region 5 with fail
 have n4:qq f (f.alloc (.cells #[.slice va xs.length vc] 226)):=(Upd.refl _ _).alloc _
 have b4:=qj f (.cells #[.slice va xs.length vc] 226)
 have z4:(f.alloc (.cells #[.slice va xs.length vc] 226)).heap.size=f.heap.size+1:=World.size_alloc _ _
 generalize f.alloc (.cells #[.slice va xs.length vc] 226)=w4 at n4 b4 z4 ⊢
 have n5:qq w4 (w4.alloc (.cells #[.string ⟨#[]⟩] 174)):=(Upd.refl _ _).alloc _
 have b5:=qj w4 (.cells #[.string ⟨#[]⟩] 174)
 have z5:(w4.alloc (.cells #[.string ⟨#[]⟩] 174)).heap.size=f.heap.size+2:=by rw[World.size_alloc,z4]
 rw[z4] at b5
 generalize w4.alloc (.cells #[.string ⟨#[]⟩] 174)=w5 at n5 b5 z5 ⊢
 have N:qq w5 (w5.alloc (.cells #[.pointer (some ⟨f.heap.size+1,0,none⟩)] 172)):=(Upd.refl _ _).alloc _
 have b6:=qj w5 (.cells #[.pointer (some ⟨f.heap.size+1,0,none⟩)] 172)
 have z6:(w5.alloc (.cells #[.pointer (some ⟨f.heap.size+1,0,none⟩)] 172)).heap.size=f.heap.size+3:=by rw[World.size_alloc,z5]
 rw[z5] at b6
 generalize w5.alloc (.cells #[.pointer (some ⟨f.heap.size+1,0,none⟩)] 172)=z at N b6 z6 ⊢
 have T:=(qa E).lt
 have b7:=qj z (.cells #[.func (.func 152) #[] #[.pointer (some ⟨f.heap.size+1+1,0,none⟩),.pointer (some ⟨A,0,none⟩)],.func (.func 153) #[] #[.pointer (some ⟨f.heap.size+1+1,0,none⟩),.pointer (some ⟨f.heap.size,0,none⟩),.pointer (some ⟨A,0,none⟩)]] 1)
 have n7:qq z (z.alloc (.cells #[.func (.func 152) #[] #[.pointer (some ⟨f.heap.size+1+1,0,none⟩),.pointer (some ⟨A,0,none⟩)],.func (.func 153) #[] #[.pointer (some ⟨f.heap.size+1+1,0,none⟩),.pointer (some ⟨f.heap.size,0,none⟩),.pointer (some ⟨A,0,none⟩)]] 1)):=(Upd.refl _ _).alloc _
 have z7:(z.alloc (.cells #[.func (.func 152) #[] #[.pointer (some ⟨f.heap.size+1+1,0,none⟩),.pointer (some ⟨A,0,none⟩)],.func (.func 153) #[] #[.pointer (some ⟨f.heap.size+1+1,0,none⟩),.pointer (some ⟨f.heap.size,0,none⟩),.pointer (some ⟨A,0,none⟩)]] 1)).heap.size=f.heap.size+4:=by rw[World.size_alloc,z6]
 rw[z6] at b7
 have H:z.cell? ⟨f.heap.size,0,none⟩=some (.slice va xs.length vc):=N.cell (n5.cell (qg b4 0) (fun h=>h)) (fun h=>h)
 have I:z.cell? ⟨f.heap.size+1+1,0,none⟩=some (.pointer (some ⟨f.heap.size+1,0,none⟩)):=qg b6 0
 have Y:Wr z (f.heap.size+1) ⟨#[]⟩:=N.old b5 (fun h=>h)
 have R:=(((qa E).new n4).new n5).new N
 have K:qq f z:=(n4.trans n5).trans N
 have M:=qa HF
 have N6:=qb ((qa N3).trans K)
 have q:=q90 (f.heap.size+3) 2 (f.heap.size+3) (fun i=>if i=0 then 152 else 153)
  (fun i=>if i=0 then #[.pointer (some ⟨f.heap.size+1+1,0,none⟩),.pointer (some ⟨A,0,none⟩)] else #[.pointer (some ⟨f.heap.size+1+1,0,none⟩),.pointer (some ⟨f.heap.size,0,none⟩),.pointer (some ⟨A,0,none⟩)])
  (fun k=>k=f.heap.size+1) (fun i w'=>Upd (fun k=>k=f.heap.size+1) z w'∧Wr w' (f.heap.size+1) (if i=0 then ⟨#[]⟩ else if i=1 then qw m.kind.toNat 1 else qio xs m)) _ (by decide)
  (by
   intro i hi;rcases (by omega:i=0∨i=1) with rfl | rfl
   ·exact qg b7 0
   ·exact qg b7 1)
  (fun k hk=>by omega) (Nat.le_refl _) (by rw[z7];omega) (by rw[z7];omega)
  (by
   rintro i a b ⟨C,h2⟩ u;exact⟨C.then u (fun k hk t=>by have t:f.heap.size+3≤k:=t;omega),u.old h2 (fun t=>by have t:f.heap.size+3≤f.heap.size+1:=t;omega)⟩)
  (by
   rintro i hi a ⟨C,h2⟩;have X:=C.cell I (fun h=>by have h:f.heap.size+1+1=f.heap.size+1:=h;omega);have a8:=C.cell H (fun h=>by have h:f.heap.size=f.heap.size+1:=h;omega);have S:=R.upd C (fun h=>by have h:A=f.heap.size+1:=h;omega);have c2:qq f a:=K.then C (fun k hk t=>by omega);rcases (by omega:i=0∨i=1) with rfl | rfl
   ·refine⟨enters_of Tryz.func152 (by kernel_rfl) rfl,?_⟩;refine(q4x _ A _ m _ a X S b8 h2 (by show (0:Nat)≤_;omega)).mono ?_;rintro e b ⟨rfl,u,hb⟩;refine⟨rfl,u,C.trans u,?_⟩;have e0:(⟨#[]⟩:ByteArray)++qw m.kind.toNat 1=qw m.kind.toNat 1:=ByteArray.empty_append;exact e0▸hb
   ·refine⟨enters_of Tryz.func153 (by kernel_rfl) rfl,?_⟩;refine(q4y _ _ _ A _ _ xs m _ f a X a8 M c2 S hm h2 (by omega) (by omega) c1 (by show (qw m.kind.toNat 1).size≤1000000;rw[qat];decide)).mono ?_;rintro e b ⟨rfl,u,hb⟩;exact⟨rfl,u,C.trans u,hb⟩)
  ⟨n7.mono (fun _ _ h=>h.elim),n7.old Y (fun h=>h)⟩
 have U:=qb H
 clear b4 b5 b6 b7 H M R n4 n5 N z4 z5 E HF
 go_wp2_with fail
 refine q.mono ?_
 rintro e w8 ⟨rfl,u8,L,r⟩
 have b3:=L.cell I (fun h=>by have h:f.heap.size+1+1=f.heap.size+1:=h;omega)
 have r:Wr w8 (f.heap.size+1) (qio xs m):=r
 have N8:=qb ((qa N6).then L (fun k hk t=>by have:=(qa N3).size;omega))
 clear q u8 L n7 z7 I Y K N6 N3 z6 U T b9
 generalize f.heap.size+1=W at *
 generalize qio xs m=s at *
 generalize W+1=V at *
 go_wp2_with fail
 refine(qf3 _ _ _ r).mono ?_
 rintro e w9 ⟨rfl,rfl⟩
 clear r b3
 go_wp2_with fail
 go_ret2
 exact⟨rfl,qa N8⟩
end
section
open Go.RowKit
def hd(r:ByteArray):Int:=bt r 0*256+bt r 1
theorem qy9(r:ByteArray):0≤hd r∧hd r≤65535:=by
 have f:=qfj r 0;have i:=qfj r 1;unfold hd;omega
def qeq(r:ByteArray):Bool:=decide (2≤r.size)&&(decide (hd r=0) || decide (1024<hd r))
theorem qv8{r:ByteArray}(h:r.size<2):qeq r=false:=by unfold qeq;simp;omega
theorem qzy{r:ByteArray}(h:2≤r.size)(f:hd r=0):qeq r=true:=by unfold qeq;simp;omega
theorem qv7{r:ByteArray}(h:2≤r.size)(f:1024<hd r):qeq r=true:=by unfold qeq;simp;omega
theorem qp6{r:ByteArray}(f:1≤hd r)(i:hd r≤1024):qeq r=false:=by unfold qeq;simp;omega
def Spl(w:World)(b:Nat)(r:ByteArray):Prop:=w.heap[b]? = some (.cells #[.string r] 169 (0,0))
theorem Spl.cell{w:World}{b:Nat}{r:ByteArray}(h:Spl w b r):w.cell? ⟨b,0,none⟩=some (.string r):=(qg h 0)
theorem Spl.free{w:World}{b:Nat}{r:ByteArray}(h:Spl w b r):w.frozen? ⟨b,0,none⟩=false:=(qv h 0)
theorem Spl.set{w:World}{b:Nat}{r:ByteArray}(h:Spl w b r)(s:ByteArray):Spl (w.setCell ⟨b,0,none⟩ (.string s)) b s:=(qad h 0 _)
theorem Spl.q{w w':World}{b:Nat}{r:ByteArray}(h:Spl w b r)(q:Q w w'):Spl w' b r:=q.old h
def Leaves(v:Value)(b:Nat)(r:ByteArray)(w:World)(e:Ending)(w':World):Prop:=e = .returned v∧Upd (· = b) w w'∧Spl w' b r
theorem qvq(b:Nat)(r:ByteArray)(w:World)(f:w.cell? ⟨b,0,none⟩=some (.string r)) :
  Calls Tryz.prog 103 #[.pointer (some ⟨b,0,none⟩)] w fun e w'=>e = .returned (.int .i64 r.size)∧w=w':=by
 go_enter Tryz.func103,Tryz.ntmps103
 go_wp2
 go_ret
 exact⟨rfl,rfl⟩
theorem q9r(b:Nat)(r s:ByteArray)(w:World)(f:w.cell? ⟨b,0,none⟩=some (.string r))(i:w.frozen? ⟨b,0,none⟩=false)(m:r.size+s.size≤9223372036854775807) :
  Calls Tryz.prog 102 #[.pointer (some ⟨b,0,none⟩),.string s] w fun e w'=>e = .returned (.tuple #[])∧w.setCell ⟨b,0,none⟩ (.string (r++s))=w':=by
 go_enter Tryz.func102,Tryz.ntmps102
 go_wp2
 go_end0
 exact⟨rfl,rfl⟩
theorem qk3(b:Nat)(r:ByteArray)(w:World)(f:w.cell? ⟨b,0,none⟩=some (.string r))(h:r.size<2) :
  Calls Tryz.prog 101 #[.pointer (some ⟨b,0,none⟩)] w (qa2 (.tuple #[.int .i64 0,.bool false]) w):=by
 go_enter Tryz.func101,Tryz.ntmps101
 go_wp2
 go_ret2
 exact⟨rfl,Q.refl _⟩
theorem qd5(b:Nat)(r:ByteArray)(w:World)(C:w.cell? ⟨b,0,none⟩=some (.string r))(h:2≤r.size) :
  Calls Tryz.prog 101 #[.pointer (some ⟨b,0,none⟩)] w (qa2 (.tuple #[.int .i64 (hd r),.bool true]) w):=by
 have v:∀w,(Instr.index 9 (.string r) (.int .i64 0)).run Tryz.prog w = .ok (.int .u8 (bt r 0)) w:=qej 9 r .i64 0 0 Tryz.underlying9 rfl (by omega)
 have z:∀w,(Instr.index 9 (.string r) (.int .i64 1)).run Tryz.prog w = .ok (.int .u8 (bt r 1)) w:=qej 9 r .i64 1 1 Tryz.underlying9 rfl (by omega)
 obtain⟨f,i⟩:=qfj r 0
 obtain⟨m,q⟩:=qfj r 1
 go_enter Tryz.func101,Tryz.ntmps101
 go_wp2
 go_quiet (fail)
 go_wp2
 go_ret2
 refine⟨?_,Q.drewN _ _⟩
 show Ending.returned (.tuple #[.int .i64 (bits .or .i64 (bt r 0*256) (bt r 1)),.bool true])=_
 rw[or8 _ _ f i m q]
 rfl
theorem q8x(b:Nat)(r:ByteArray)(n:Int)(w:World)(i:w.cell? ⟨b,0,none⟩=some (.string r))(m:w.frozen? ⟨b,0,none⟩=false)(f:0≤n)(q:n≤r.size) :
  Calls Tryz.prog 104 #[.pointer (some ⟨b,0,none⟩),.int .i64 n] w fun e w'=>e = .returned (.string (r.extract 0 n.toNat))∧w.setCell ⟨b,0,none⟩ (.string (r.extract n.toNat r.size))=w':=by
 obtain⟨k,rfl⟩:=Int.eq_ofNat_of_zero_le f
 go_enter Tryz.func104,Tryz.ntmps104
 go_wp2
 go_ret
 exact⟨rfl,rfl⟩
theorem qrt(b:Nat)(r:ByteArray)(w:World)(m:w.cell? ⟨b,0,none⟩=some (.string r)) :
  Calls Tryz.prog 62 #[.pointer (some ⟨b,0,none⟩)] w (qa2 (.bool (qeq r)) w):=by
 obtain⟨C,E⟩:=qy9 r
 by_cases h:r.size<2
 ·rw[qv8 h];go_enter Tryz.func62,Tryz.ntmps62;go_wp2_with fail;refine(qk3 b r _ m h).mono ?_;rintro e w1 ⟨rfl,f⟩;go_wp2;go_ret;exact⟨rfl,f⟩
 ·by_cases i:hd r=0
  ·rw[qzy (by omega) i];have H:=Lib.hid i;clear i;go_enter Tryz.func62,Tryz.ntmps62;go_wp2_with fail;refine(qd5 b r _ m (by omega)).mono ?_;rintro e w1 ⟨rfl,f⟩;have z:(hd r==0)=true:=by rw[H.out];rfl
   go_wp2;go_ret;exact⟨rfl,f⟩
  ·have z:(hd r==0)=false:=by simpa using i
   by_cases q:1024<hd r
   ·rw[qv7 (by omega) q];go_enter Tryz.func62,Tryz.ntmps62;go_wp2_with fail;refine(qd5 b r _ m (by omega)).mono ?_;rintro e w1 ⟨rfl,f⟩;go_wp2;go_ret;exact⟨rfl,f⟩
   ·rw[qp6 (by omega) (by omega)];have v:decide (1024<hd r)=false:=by simpa using q
    go_enter Tryz.func62,Tryz.ntmps62;go_wp2_with fail;refine(qd5 b r _ m (by omega)).mono ?_;rintro e w1 ⟨rfl,f⟩;go_wp2;go_ret;exact⟨rfl,f⟩
theorem q3v(b:Nat)(r:ByteArray)(w:World)(f:w.cell? ⟨b,0,none⟩=some (.string r))(h:qeq r=true) :
  Calls Tryz.prog 62 #[.pointer (some ⟨b,0,none⟩)] w (qa2 (.bool true) w):=h▸qrt b r w f
theorem qjl(b:Nat)(r:ByteArray)(w:World)(f:w.cell? ⟨b,0,none⟩=some (.string r))(h:qeq r=false) :
  Calls Tryz.prog 62 #[.pointer (some ⟨b,0,none⟩)] w (qa2 (.bool false) w):=h▸qrt b r w f
theorem q9q(b:Nat)(r s:ByteArray)(w:World)(f:Spl w b r)(h:qeq r=false)(m:r.size+s.size≤9223372036854775807) :
  Calls Tryz.prog 63 #[.pointer (some ⟨b,0,none⟩),.string s] w (Leaves (.int .i64 0) b (r++s) w):=by
 go_enter Tryz.func63,Tryz.ntmps63
 go_wp2_with fail
 refine(qjl b r _ f.cell h).mono ?_
 rintro e w1 ⟨rfl,i⟩
 go_wp2_with fail
 refine(q9r b r s _ (f.q i).cell (f.q i).free m).mono ?_
 rintro e w' ⟨rfl,rfl⟩
 go_wp2
 go_ret
 exact⟨rfl,(i.upd _).set1 _ _,(f.q i).set _⟩
def qig(r:ByteArray):Prop:=2≤r.size∧qeq r=false∧2+hd r≤r.size
theorem qxw(b:Nat)(r:ByteArray)(w:World)(f:Spl w b r)(h:qig r) :
  Calls Tryz.prog 64 #[.pointer (some ⟨b,0,none⟩)] w (Leaves (.tuple #[.string ((r.extract 0 (2+hd r).toNat).extract 2 (2+hd r).toNat),.bool true]) b (r.extract (2+hd r).toNat r.size) w):=by
 obtain⟨C,m,z⟩:=h
 obtain⟨F,H⟩:=qy9 r
 have E:decide ((r.size:Int)<2+hd r)=false:=by simp;omega
 go_enter Tryz.func64,Tryz.ntmps64
 go_wp2_with fail
 refine(qd5 b r _ f.cell C).mono ?_
 rintro e w1 ⟨rfl,i⟩
 go_wp2_with fail
 refine(qjl b r _ (f.q i).cell m).mono ?_
 rintro e I ⟨rfl,v⟩
 go_wp2_with fail
 refine(qvq b r _ ((f.q i).q v).cell).mono ?_
 rintro e w' ⟨rfl,rfl⟩
 go_wp2_with fail
 refine(q8x b r (2+hd r) _ ((f.q i).q v).cell ((f.q i).q v).free (by omega) z).mono ?_
 rintro e w' ⟨rfl,rfl⟩
 go_wp2
 go_ret2
 exact⟨rfl,((i.trans v).upd _).set1 _ _,((f.q i).q v).set _⟩
theorem q1z{r:ByteArray}(h:¬qig r):r.size<2∨(2≤r.size∧qeq r=true)∨(2≤r.size∧qeq r=false∧r.size<2+hd r):=by
 by_cases f:r.size<2
 ·exact .inl f
 ·cases m:qeq r with
  | true=>exact .inr (.inl ⟨by omega,rfl⟩)
  | false=>exact .inr (.inr ⟨by omega,rfl,by
    refine Int.not_le.1 fun i=>h ⟨by omega,m,i⟩⟩)
theorem q6q(b:Nat)(r:ByteArray)(w:World)(m:Spl w b r)(h:¬qig r) :
  Calls Tryz.prog 64 #[.pointer (some ⟨b,0,none⟩)] w (Leaves (.tuple #[.string ⟨#[]⟩,.bool false]) b r w):=by
 obtain⟨I,J⟩:=qy9 r
 rcases q1z h with E | ⟨z,f⟩ | ⟨z,f,C⟩
 ·clear h;go_enter Tryz.func64,Tryz.ntmps64;go_wp2_with fail;refine(qk3 b r _ m.cell E).mono ?_;rintro e w1 ⟨rfl,i⟩;go_wp2;go_ret2;exact⟨rfl,i.upd _,m.q i⟩
 ·clear h;go_enter Tryz.func64,Tryz.ntmps64;go_wp2_with fail;refine(qd5 b r _ m.cell z).mono ?_;rintro e w1 ⟨rfl,i⟩;go_wp2_with fail;refine(q3v b r _ (m.q i).cell f).mono ?_;rintro e H ⟨rfl,v⟩;go_wp2;go_ret2;exact⟨rfl,(i.trans v).upd _,(m.q i).q v⟩
 ·have F:decide ((r.size:Int)<2+hd r)=true:=by simpa using C
  clear h;go_enter Tryz.func64,Tryz.ntmps64;go_wp2_with fail;refine(qd5 b r _ m.cell z).mono ?_;rintro e w1 ⟨rfl,i⟩;go_wp2_with fail;refine(qjl b r _ (m.q i).cell f).mono ?_;rintro e H ⟨rfl,v⟩;go_wp2_with fail;refine(qvq b r _ ((m.q i).q v).cell).mono ?_;rintro e w' ⟨rfl,rfl⟩;go_wp2;go_ret2;exact⟨rfl,(i.trans v).upd _,(m.q i).q v⟩
def qc0(s:ByteArray):ByteArray:=strOfNums [(s.size:Int) / 256,(s.size:Int)%256]++s
theorem qu6(s:ByteArray)(w:World)(m:0<s.size)(v:s.size≤1024) :
  Calls Tryz.prog 116 #[.string s] w (qa7 (.tuple #[.string (qc0 s),.int .i64 0]) w):=by
 have r:=q7s m
 have q:=@qo9 Tryz.prog 95 9 5 Tryz.underlying95 Tryz.underlying5 Tryz.underlying9 5
 have f:(strOfNums [(s.size:Int) / 256,(s.size:Int)%256]).size=2:=strOfNums_size _
 have i:(strOfNums [(s.size:Int) / 256,(s.size:Int)%256]).size+s.size≤9223372036854775807:=by omega
 clear f
 go_enter Tryz.func116,Tryz.ntmps116
 go_wp2
 go_ret2
 exact⟨rfl,(Upd.refl _ _).alloc _⟩
def ready(r:ByteArray):Bool:=decide (2≤r.size) && !qeq r&&decide (2+hd r≤r.size)
def qlr(w:World)(b n:Nat)(F:Nat→FuncId)(m f:Nat→Array Value):Prop:=∀i,i<n→w.cell? ⟨b,i,none⟩=some (.func (.func (F i)) (m i) (f i))
def qyv(n:Nat)(C:Nat→World→Prop)(D:Int→World→Prop)(e:Ending)(w':World):Prop :=
 (e = .returned (.int .i64 0)∧C n w')∨∃er:Int,er≠0∧e = .returned (.int .i64 er)∧D er w'
theorem qwl(g b n:Nat)(F:Nat→FuncId)(H m:Nat→Array Value)(T:Nat→Prop)(C:Nat→World→Prop)(D:Int→World→Prop)(w:World)(hn:n≤100)
  (hd:w.cell? ⟨g,6,none⟩=some (.bool false)) (q:qlr w b n F H m) (Y:¬T b)
  (hs:∀i,i<n→∀w',C i w'→(∀args w,(callFunc (F i) args).run Tryz.prog w = .ok (.enter (F i) args) w)∧Calls Tryz.prog (F i) (H i++m i) w' fun e E=>Upd T w' E∧qyv (i+1) C D e E)
  (M:C 0 w) :
  Calls Tryz.prog 66 #[.pointer (some ⟨g,0,none⟩),.slice (some ⟨b,0,none⟩) n n] w fun e w'=>Upd T w w'∧qyv n C D e w':=by
 have a7:(n:Int)≤100:=by omega
 have R:=qb M
 have V:=qb q
 clear M q
 go_enter Tryz.func66,Tryz.ntmps66
 go_wp2_with fail
 go_loopw [14] (fun J wr=>∃i:Nat,J = .int .i64 (i:Int)∧i≤n∧Hid (C i wr)∧Upd T w wr) (fun J _=>n-(intOf J).toNat)
 case atStart=>exact⟨0,rfl,Nat.zero_le _,R,Upd.refl _ _⟩
 case round =>
  obtain⟨i,rfl,hi,I,u⟩:=hrel;obtain⟨L,rfl⟩:∃L:World,L=wr:=⟨_,rfl⟩;by_cases v:i<n
  ·have a6:(i:Int)<(n:Int):=by omega
   obtain⟨z,f⟩:=hs i v L (qa I);have O:=u.cell (qa V i v) Y;generalize F i=Fi at *
   generalize H i=fi at *
   generalize m i=ci at *
   clear I hd;go_wp2_with fail;refine f.mono ?_;rintro e w3 ⟨K,X⟩;have P:=u.trans K;rcases X with ⟨rfl,r⟩ | ⟨er,Z,rfl,N⟩
   ·have r:=qb r;clear O z f u K;go_wp2_with fail;go_roundw
    case rel=>exact⟨i+1,by go_num,v,r,P⟩
    case measure=>simp[intOf];omega
   ·have S:=qb N;have U:=qb Z;clear O z f u K N;go_wp2_with fail;go_ret;exact⟨P,.inr ⟨er,qa U,rfl,qa S⟩⟩
  ·obtain rfl:i=n:=by omega
   have W:=qb u;clear hd u;go_wp2_with fail;go_ret;exact⟨qa W,.inl ⟨rfl,qa I⟩⟩
end
end Go.Proofs.YtfmkdoachjgjbaaGreatDoor
