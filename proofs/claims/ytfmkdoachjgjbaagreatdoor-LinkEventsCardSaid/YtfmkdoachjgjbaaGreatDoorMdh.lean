/-
  Cut.
-/
import Derived.Test.YtfmkdoachjgjbaaGreatDoorMda
import Derived.Test.YtfmkdoachjgjbaaGreatDoorMcj
import Derived.Test.YtfmkdoachjgjbaaGreatDoorMdb
import Derived.Test.YtfmkdoachjgjbaaGreatDoorMbg
import Derived.Deep.AppendLies
import Derived.Test.YtfmkdoachjgjbaaGreatDoorTxt
import Derived.Test.YtfmkdoachjgjbaaGreatDoorMag
import Derived.Deep.Onto
import Derived.Test.YtfmkdoachjgjbaaGreatDoorMdg
import Derived.Test.YtfmkdoachjgjbaaGreatDoorMdf
import Derived.Test.YtfmkdoachjgjbaaGreatDoorMah
import Derived.Test.YtfmkdoachjgjbaaGreatDoorMca
set_option maxRecDepth 100000
set_option maxHeartbeats 2000000
set_option linter.unusedVariables false
set_option linter.unusedSimpArgs false
namespace Go.Proofs.YtfmkdoachjgjbaaGreatDoor
section
open Go.RowKit
attribute [local go_sem ↓ high] qbf qbs qci qgk qdr qtm
attribute [local go_sem] qdo qd2 qfl qr1 qkb zbf qx
end
section
open Go.RowKit
section
variable {w w1:World}{g:Nat}{S:Nat→Prop}{l:Lk}{sp en lo B:Nat}{SC SJ:Nat→Prop}
end
attribute [local go_sem ↓ high] qz zb ze zi qak
attribute [local go_sem] qax qay qa4 qx qco
end
section
open Go.RowKit
attribute [local go_sem ↓ high] qb5
attribute [local go_sem] qeg
end
section
open Go.RowKit
attribute [local go_sem ↓ high] qb5
attribute [local go_sem] qeg qx
end
section
open Go.RowKit
theorem q4k(g:Nat)(l:LinkV)(w:World)(h:LkR w g l) :
  Calls Tryz.prog 19 #[.pointer (some ⟨g,0,none⟩)] w (qa2 (.pointer (some ⟨l.en,0,none⟩)) w):=by
 have f:w.cell? ⟨g,1,none⟩=some (.pointer (some ⟨l.en,0,none⟩)):=qg h 1
 clear h
 go_enter Tryz.func19,Tryz.ntmps19
 go_wp2_with fail
 go_ret
 exact⟨rfl,Q.refl _⟩
attribute [local go_sem ↓ high] qbf qbs qci
attribute [local go_sem] qdo qd2 qfl qx
end
section
open Go.RowKit
section
variable {w w':World}{g:Nat}{S T:Nat→Prop}{l:Lk}{es:List EvV}
theorem LkV.lt(h:LkV w g S l es):∀k,S k→k<w.heap.size:=by
 obtain⟨sp,en,lo,h⟩:=h;exact h.lt
theorem LkV.new(h:LkV w g S l es)(n:qq w w'):LkV w' g S l es:=by
 obtain⟨sp,en,lo,h⟩:=h;exact⟨sp,en,lo,h.new n⟩
theorem LkV.upd(h:LkV w g S l es)(u:Upd T w w')(hd:∀k,S k→¬T k):LkV w' g S l es:=by
 obtain⟨sp,en,lo,h⟩:=h;exact⟨sp,en,lo,h.upd u hd⟩
theorem LkV.wider(h:LkV w g S l es)(i:∀k,S k→T k)(f:∀k,T k→k<w.heap.size):LkV w g T l es:=by
 obtain⟨sp,en,lo,h⟩:=h;exact⟨sp,en,lo,h.wider i f⟩
theorem LkV.ev{v:Value}(h:LkV w g S {l with ev:=v} es):LkV w g S l es:=by
 obtain⟨sp,en,lo,f,i,m,ev,h⟩:=h;exact⟨sp,en,lo,f,i,m,ev,h.lk,h.row,h.out,h.inE,h.in0,h.lt⟩
theorem LkS.toV(h:LkS w g S l)(m:l.ev=qcu):LkV w g S l []:=by
 obtain⟨sp,en,lo,f,i,h⟩:=h;have e:({l with ev:=qcu} : Lk)=l:=by rw[←m]
 refine⟨sp,en,lo,S,f,i,qcu,⟨?_,qir.nil _,(fun k e=>by cases e),(fun k e=>by cases e),(fun k e=>e),h.lt⟩⟩;rw[e];exact h
end
theorem zcl(g:Nat)(S:Nat→Prop)(l:Lk)(es:List EvV)(w:World)(h:LkV w g S l es)(hd:l.dead=false) :
  Calls Tryz.prog 44 #[.pointer (some ⟨g,0,none⟩)] w fun e w'=>e = .returned (.string l.out)∧LkV w' g (Fr S w w') {l with out:=⟨#[]⟩} es∧Upd S w w':=by
 obtain⟨sp,en,lo,i,m,q,ev,h⟩:=h
 refine(q9n g i {l with ev:=ev} w ⟨sp,en,lo,m,q,h.lk⟩ hd).mono ?_
 rintro e w' ⟨rfl,f,u⟩
 have:=LkV.lift (L:= {l with out:=⟨#[]⟩}) h u (f.wider (fun k e=> .inl e) (fun k e=>e.elim (fun e=>f.lt k e) (fun e=>e.2)))
 exact⟨rfl,this.1,this.2⟩
theorem qzu(g:Nat)(S:Nat→Prop)(l:Lk)(es:List EvV)(w:World)(h:LkV w g S l es)(hd:l.dead=false) :
  Calls Tryz.prog 16 #[.pointer (some ⟨g,0,none⟩)] w fun e w'=>∃ev,e = .returned ev∧qir w' ev es∧LkV w' g S l []∧Upd S w w'∧(∀k,ev.ownBlock=some k→S k)∧(∃f,LkV w' g f l []∧(∀k,f k→S k)∧∀k,ev.ownBlock=some k→¬f k):=by
 obtain⟨sp,en,lo,i,z,C,ev,h⟩:=h
 obtain⟨a,cap,v⟩:=qaf h.row
 refine(qup g i {l with ev:=ev} w a es.length cap ⟨sp,en,lo,z,C,h.lk⟩ hd v).mono ?_
 rintro e w' ⟨rfl,E,u⟩
 have r:=h.lk.inG
 have F:qir w' ev es:=h.row.upd u (fun k e m=>h.out k e (by have m:k=g:=m;rw[m];exact r))
 have q:LkV w' g i l []:=by
  have:=E.toV rfl;exact this.ev.ev
 refine⟨ev,by rw[v],F,q.wider h.in0 (fun k e=>Nat.lt_of_lt_of_le (h.lt k e) u.size),u.mono (fun k _ e=>by have e:k=g:=e;rw[e];exact h.in0 g r),h.inE,i,q,h.in0,h.out⟩
noncomputable def Lk.tick(l:Lk)(n:Nat):Lk:=if l.waits=true∨(n+1)%3≠0 then {l with ticks:=(n:Int)+1} else ({l with ticks:=(n:Int)+1} : Lk).signs
noncomputable def Lk.tickE(l:Lk)(n:Nat):Int:=if l.waits=true∨(n+1)%3≠0 then 0 else qlm l.c.sign.2.2
theorem zdj(g:Nat)(S:Nat→Prop)(l:Lk)(es:List EvV)(n:Nat)(w:World)(h:LkV w g S l es)(i:LkOkW l)(P:l.ticks=n)(q:n<1000000)(I:l.c.sign.2.2=0→SayOk l.c.sign.2.1)(O:l.c.sign.2.1.hash.length=32)(Y:Tc w)(X:ApC S)
  (H:l.c.s.key.size≤100000000) (N:0≤l.c.s.ch∧l.c.s.ch<4294967296) (E:l.c.news.length<1000000) (U:l.c.xs.length≤16) :
  Calls Tryz.prog 28 #[.pointer (some ⟨g,0,none⟩)] w fun e w'=>e = .returned (.int .i64 (l.tickE n))∧LkV w' g (Fr S w w') (l.tick n) es∧Upd S w w':=by
 obtain⟨sp,en,lo,J,V,W,ev,h⟩:=h
 have R:LkS w g J {l with ev:=ev} := ⟨sp,en,lo,V,W,h.lk⟩
 by_cases M:l.waits=true
 ·have z:l.tick n = {l with ticks:=(n:Int)+1} := by unfold Lk.tick;rw[if_pos (.inl M)]
  have C:l.tickE n=0:=by unfold Lk.tickE;rw[if_pos (.inl M)]
  rw[z,C];refine(qyq g J {l with ev:=ev} n w R i.dead M P q).mono ?_;rintro e w' ⟨rfl,f,u⟩;have:=LkV.lift (L:= {l with ticks:=(n:Int)+1}) h u (f.wider (fun k e=> .inl e) (fun k e=>e.elim (fun e=>f.lt k e) (fun e=>e.2)));exact⟨rfl,this.1,this.2⟩
 ·have r:l.waits=false:=by simpa using M
  have F:LkOk {l with ev:=ev} := ⟨i.dead,r,i.fused,i.off,i.many,i.len,i.out⟩;by_cases v:(n+1)%3=0
  ·have z:l.tick n=({l with ticks:=(n:Int)+1} : Lk).signs:=by unfold Lk.tick;rw[if_neg (by simp[r,v])]
   have C:l.tickE n=qlm l.c.sign.2.2:=by unfold Lk.tickE;rw[if_neg (by simp[r,v])]
   rw[z,C];refine(qyp g J {l with ev:=ev} n w R F P q v I O Y (X.mono h.in0) H N E U).mono ?_;rintro e w' ⟨rfl,f,u⟩;have Z:Lk.signs {l with ev:=ev,ticks:=(n:Int)+1} = {(({l with ticks:=(n:Int)+1} : Lk).signs) with ev:=ev} := by
    show Lk.acts _ l.c.sign.1 _ l.c.sign.2.1 l.c.sign.2.2 = {(Lk.acts _ l.c.sign.1 _ l.c.sign.2.1 l.c.sign.2.2:Lk) with ev:=ev};generalize l.c.sign.1=c';generalize l.c.sign.2.1=m;generalize l.c.sign.2.2=er;unfold Lk.acts;by_cases K:er=0
    ·rw[if_pos K,if_pos K];rfl
    ·rw[if_neg K,if_neg K]
   rw[Z] at f;have:=LkV.lift h u f;exact⟨rfl,this.1,this.2⟩
  ·have z:l.tick n = {l with ticks:=(n:Int)+1} := by unfold Lk.tick;rw[if_pos (.inr v)]
   have C:l.tickE n=0:=by unfold Lk.tickE;rw[if_pos (.inr v)]
   rw[z,C];refine(qs6 g J {l with ev:=ev} n w R F P q v).mono ?_;rintro e w' ⟨rfl,f,u⟩;have:=LkV.lift (L:= {l with ticks:=(n:Int)+1}) h u (f.wider (fun k e=> .inl e) (fun k e=>e.elim (fun e=>f.lt k e) (fun e=>e.2)));exact⟨rfl,this.1,this.2⟩
theorem zcj(g:Nat)(S:Nat→Prop)(l L:Lk)(es f:List EvV)(E:Int)(s:ByteArray)(w:World)(h:LkV w g S l es)(i:l.dead=false)(C:l.broken=false)(m:qeq l.rest=false)(q:l.rest.size+s.size≤1000000000)(z:Tb w)(r:Apart S)(v:Bts {l with rest:=l.rest++s} es L f E) :
  Calls Tryz.prog 24 #[.pointer (some ⟨g,0,none⟩),.string s] w fun e w'=>e = .returned (.int .i64 E)∧LkV w' g (Fr S w w') L f∧Upd S w w':=by
 obtain⟨sp,en,lo,h⟩:=h
 refine(qxl g S l L es f E s sp en lo w h i C m q z r v).mono ?_
 rintro e w' ⟨rfl,u,h⟩
 exact⟨rfl,⟨sp,en,lo,h⟩,u⟩
theorem za8(g:Nat)(S:Nat→Prop)(l:Lk)(es:List EvV)(w:World)(h:LkV w g S l es):∃en f,ChS w en f l.c∧(∀k,f k→S k)∧Calls Tryz.prog 19 #[.pointer (some ⟨g,0,none⟩)] w (qa2 (.pointer (some ⟨en,0,none⟩)) w):=by
 obtain⟨sp,en,lo,i,f,m,ev,h⟩:=h;exact⟨en,f,h.lk.chn,fun k e=>h.in0 k (h.lk.inC k e),q4k g _ w h.lk.at_⟩
theorem bx{a b:ByteArray}(h:a.data.toList=b.data.toList):a=b:=by
 cases a;cases b;simp only at h;rw[ByteArray.mk.injEq];exact Array.ext' h
theorem qoc(a b:ByteArray):(a++b).data.toList=a.data.toList++b.data.toList:=by simp
theorem qko(a b c:ByteArray):(a++b)++c=a++(b++c):=bx (by simp only[qoc,List.append_assoc])
theorem qr4(s:ByteArray)(i j:Nat):(s.extract i j).data.toList=(s.data.toList.drop i).take (j-i):=by
 rw[ByteArray.data_extract,Array.toList_extract,List.extract_eq_take_drop]
theorem qjm(s:ByteArray):s.data.toList.length=s.size:=by rw[Array.length_toList];rfl
theorem qnf(a b:ByteArray):(a++b).extract a.size (a++b).size=b:=bx (by
 rw[qr4,qoc,List.drop_append,List.drop_of_length_le (by rw[qjm];exact Nat.le_refl _),qjm,List.nil_append,Nat.sub_self,List.drop_zero,ByteArray.size_append,List.take_of_length_le (by rw[qjm];omega)])
theorem q4i(a b:ByteArray):(a++b).extract 0 a.size=a:=bx (by
 rw[qr4,qoc,List.drop_zero,Nat.sub_zero,List.take_append_of_le_length (by rw[qjm];exact Nat.le_refl _),List.take_of_length_le (by rw[qjm];exact Nat.le_refl _)])
theorem qr2(l:List Int)(r:ByteArray)(i:Nat)(x:Int)(m:l[i]? = some x)(q:0≤x∧x≤255):bt (strOfNums l++r) i=x:=by
 have f:=(List.getElem?_eq_some_iff.1 m).1;unfold bt;rw[qoc,strOfNums_data,List.getD_eq_getElem?_getD,List.getElem?_append_left (by simpa using f),List.getElem?_map,m];show ((UInt8.ofNat x.toNat).toNat:Int)=x;rw[UInt8.toNat_ofNat_of_lt' (by show x.toNat<256;omega)];omega
theorem qzm(n w:Nat)(r:ByteArray)(f:n<2 ^ (8*w)):∀i,i≤w→rdN (qw n w++r) i=(n:Int) / 2 ^ (8*(w-i))
 | 0,_=>by
  symm;refine Int.ediv_eq_zero_of_lt (by omega) ?_;exact_mod_cast f
 | i+1,h=>by
  have z:=qzm n w r f i (by omega);have v:bt (qw n w++r) i=(n:Int) / 2 ^ (8*(w-1-i))%256:=by
   refine qr2 _ r i _ ?_ (by omega);unfold q9j;rw[List.getElem?_map,List.getElem?_range (by omega)];rfl
  show rdN (qw n w++r) i*256+bt (qw n w++r) i=_;rw[z,v];have m:8*(w-i)=8*(w-1-i)+8:=by omega
  have q:w-(i+1)=w-1-i:=by omega
  rw[m,q,Int.pow_add,←Int.ediv_ediv_of_nonneg (Int.le_of_lt (Int.pow_pos (by decide)))];show ((n:Int) / 2 ^ (8*(w-1-i))) / 256*256+((n:Int) / 2 ^ (8*(w-1-i)))%256=_;omega
theorem ql3{n:Int}{w:Nat}(r:ByteArray)(f:0≤n)(m:n<2 ^ (8*w)):rdN (qw n.toNat w++r) w=n:=by
 have i:n.toNat<2 ^ (8*w):=by
  have:((n.toNat:Nat):Int)<((2 ^ (8*w):Nat):Int):=by
   rw[Int.toNat_of_nonneg f];exact_mod_cast m
  exact_mod_cast this
 rw[qzm _ _ r i w (Nat.le_refl _),Nat.sub_self];show ((n.toNat:Nat):Int) / 1=n;omega
theorem zb9{h:List Int}(v:h.length=32)(m:qbm h)(r:ByteArray):rdH (strOfNums h++r)=h:=by
 unfold rdH;apply List.ext_getElem?;intro i;by_cases q:i<32
 ·obtain⟨x,f⟩:∃x,h[i]? = some x:=⟨_,List.getElem?_eq_getElem (by omega)⟩;rw[List.getElem?_map,List.getElem?_range q,Option.map_some,f,qr2 h r i x f (m x (List.mem_of_getElem? f))]
 ·rw[List.getElem?_eq_none (by simp;omega),List.getElem?_eq_none (by omega)]
def Fld.set(x:Fld)(m k:MsgV):MsgV :=
 match x with
 | .ch=> {k with ch:=m.ch}
 | .id=> {k with id:=m.id}
 | .amount=> {k with amount:=m.amount}
 | .hash=> {k with hash:=m.hash}
 | .expiry=> {k with expiry:=m.expiry}
 | .number=> {k with number:=m.number}
theorem qzl{m:MsgV}(h:PutOk m)(x:Fld):(x.put m).size=x.wid:=by
 cases x
 case hash=>show (strOfNums m.hash).size=32;rw[strOfNums_size,h.ok.len]
 all_goals exact qat _ _
theorem q87{m:MsgV}(h:PutOk m)(x:Fld)(r:ByteArray)(k:MsgV):x.get (x.put m++r) k=x.set m k:=by
 cases x
 case ch=>show ({k with ch:=rdN (qw m.ch.toNat 4++r) 4} : MsgV)=_;rw[ql3 r h.ok.ch.1 h.ok.ch.2];rfl
 case id=>show ({k with id:=rdN (qw m.id.toNat 8++r) 8} : MsgV)=_;rw[ql3 r h.ok.id.1 h.ok.id.2];rfl
 case amount=>show ({k with amount:=rdN (qw m.amount.toNat 8++r) 8} : MsgV)=_;rw[ql3 r h.ok.amount.1 h.ok.amount.2];rfl
 case hash=>show ({k with hash:=rdH (strOfNums m.hash++r)} : MsgV)=_;rw[zb9 h.ok.len h.ok.hash];rfl
 case expiry=>show ({k with expiry:=rdN (qw m.expiry.toNat 4++r) 4} : MsgV)=_;rw[ql3 r h.expiry.1 h.expiry.2];rfl
 case number=>show ({k with number:=rdN (qw m.number.toNat 2++r) 2} : MsgV)=_;rw[ql3 r h.number.1 h.number.2];rfl
def q7j(xs:List Fld)(m k:MsgV):MsgV:=xs.foldl (fun k x=>x.set m k) k
def qkq:List Fld→MsgV→ByteArray
 | [],_=>⟨#[]⟩
 | x::xs,m=>x.put m++qkq xs m
theorem qu7(m:MsgV):∀(xs:List Fld) (s:ByteArray),qev xs m s=s++qkq xs m
 | [],s=>bx (by rw[qoc];simp[qev,qkq])
 | x::xs,s=>by
  show qev xs m (s++x.put m)=s++(x.put m++qkq xs m);rw[qu7 m xs,qko]
theorem qt6{m:MsgV}(h:PutOk m):∀(xs:List Fld) (r:ByteArray) (k:MsgV),qdv xs (qkq xs m++r) k=some (q7j xs m k,r)
 | [],r,k=>by
  have e:(⟨#[]⟩:ByteArray)++r=r:=ByteArray.empty_append;show some (k,(⟨#[]⟩:ByteArray)++r)=_;rw[e];rfl
 | x::xs,r,k=>by
  have e:qkq (x::xs) m++r=x.put m++(qkq xs m++r):=qko _ _ _;rw[e,qdv,if_neg (by rw[ByteArray.size_append,qzl h];omega),q87 h];have f:=qnf (x.put m) (qkq xs m++r);rw[qzl h] at f;rw[f,qt6 h xs];rfl
theorem q2z{m:MsgV}{xs:List Fld}(q:fieldsOf m.kind=some xs)(f:qam m=true):q7j xs m (qbh m.kind)=m:=by
 unfold qam at f;rw[q] at f;simp only at f;split at f
 ·cases f
 ·have r:qgf xs m=qbh m.kind:=of_decide_eq_true f;clear f;obtain⟨k,c,i,a,h,e,n⟩:=m;unfold fieldsOf at q
  repeat' (split at q)
  all_goals cases q
  all_goals
   simp only[qgf,List.foldl,Fld.zero,qbh,MsgV.mk.injEq,true_and,and_true] at r;simp only[q7j,List.foldl,Fld.set,qbh,MsgV.mk.injEq,true_and,and_true];simp[r]
theorem q81{m:MsgV}{xs:List Fld}(h:SayOk m)(i:fieldsOf m.kind=some xs):qct (qio xs m)=(m,0):=by
 have f:qio xs m=qw m.kind.toNat 1++qkq xs m:=qu7 m xs _;have v:bt (qio xs m) 0=m.kind:=by
  have:=ql3 (w:=1) (qkq xs m) h.kind.1 h.kind.2;rw[←f] at this;have e:rdN (qio xs m) 1=0*256+bt (qio xs m) 0:=rfl;rw[e] at this;omega
 have z:(qio xs m).extract 1 (qio xs m).size=qkq xs m:=by
  have:=qnf (qw m.kind.toNat 1) (qkq xs m);rw[qat] at this;rw[f];exact this
 have C:(qio xs m).size≠0:=by rw[f,ByteArray.size_append,qat];omega
 have q:=qt6 h.put xs ⟨#[]⟩ (qbh m.kind);rw[show qkq xs m++(⟨#[]⟩:ByteArray)=qkq xs m from ByteArray.append_empty,q2z i h.may] at q;refine qy5 (r:=⟨#[]⟩) C (by rw[v];exact i) (by rw[z,v];exact q) rfl h.may
theorem q5p(g r:ByteArray)(f:g.size≤1024):hd (qc0 g++r)=g.size:=by
 unfold qc0 hd;rw[qko,qr2 _ _ 0 ((g.size:Int) / 256) rfl (by omega),qr2 _ _ 1 ((g.size:Int)%256) rfl (by omega)];omega
theorem q5j(g r:ByteArray)(i:0<g.size)(f:g.size≤1024):qig (qc0 g++r):=by
 have m:=q5p g r f;have q:(qc0 g++r).size=2+g.size+r.size:=by rw[ByteArray.size_append,qd3]
 exact⟨by omega,qp6 (by omega) (by omega),by omega⟩
theorem zbn(g r:ByteArray)(f:g.size≤1024):frT (qc0 g++r)=g:=by
 have i:=q5p g r f;have e:(2+hd (qc0 g++r)).toNat=(qc0 g).size:=by rw[i,qd3];omega
 unfold frT;rw[e,q4i];unfold qc0;have:=qnf (strOfNums [(g.size:Int) / 256,(g.size:Int)%256]) g;rw[strOfNums_size] at this;exact this
theorem zbm(g r:ByteArray)(f:g.size≤1024):frR (qc0 g++r)=r:=by
 have i:=q5p g r f;have e:(2+hd (qc0 g++r)).toNat=(qc0 g).size:=by rw[i,qd3];omega
 unfold frR;rw[e,qnf]
theorem SayOk.dec{m:MsgV}(h:SayOk m)(r:ByteArray):∃t,t.size≤1000∧qct t=(m,0)∧qig (qez m++r)∧frT (qez m++r)=t∧frR (qez m++r)=r:=by
 obtain⟨xs,q,C,v,f⟩:=h.say;have E:=qj1 q;have z:=qjt m h.put.ok.len xs (qw m.kind.toNat 1);rw[qat] at z;have i:(qio xs m).size≤1000:=by
  show (qev xs m (qw m.kind.toNat 1)).size≤_;omega
 rw[C];exact⟨qio xs m,i,q81 h q,q5j _ r v f,zbn _ r f,zbm _ r f⟩
structure LkC(l:Lk)(c:Ch)(t:Int)(wt:Bool)(o r:ByteArray)(n:Nat):Prop where
 c:l.c=c
 ticks:l.ticks=t
 waits:l.waits=wt
 out:l.out=o
 rest:l.rest=r
 dead:l.dead=false
 broken:l.broken=false
 fused:l.j.fused=false
 off:l.j.off=false
 many:0≤l.j.many∧l.j.many≤n
 len:l.j.bs.size≤2000*n
 outn:o.size≤2000*n
section
variable {l:Lk}{c c':Ch}{t:Int}{wt:Bool}{o r:ByteArray}{n m:Nat}
theorem LkC.ok(h:LkC l c t wt o r n)(f:n≤100000000):LkOkW l:=⟨h.dead,h.fused,h.off,⟨h.many.1,by have:=h.many.2;omega⟩,by have:=h.len;omega,by have:=h.outn;rw[h.out];omega⟩
theorem LkC.mono(h:LkC l c t wt o r n)(f:n≤m):LkC l c t wt o r m:=⟨h.c,h.ticks,h.waits,h.out,h.rest,h.dead,h.broken,h.fused,h.off,⟨h.many.1,by have:=h.many.2;omega⟩,by have:=h.len;omega,by have:=h.outn;omega⟩
theorem LkC.outs(h:LkC l c t wt o r n):LkC {l with out:=⟨#[]⟩} c t wt ⟨#[]⟩ r n:=⟨h.c,h.ticks,h.waits,rfl,h.rest,h.dead,h.broken,h.fused,h.off,h.many,h.len,Nat.zero_le _⟩
theorem LkC.comes(h:LkC l c t wt o r n)(s:ByteArray):LkC {l with rest:=l.rest++s} c t wt o (r++s) n:=⟨h.c,h.ticks,h.waits,h.out,by show l.rest++s=_;rw[h.rest],h.dead,h.broken,h.fused,h.off,h.many,h.len,h.outn⟩
theorem LkC.new(c:Ch):LkC (.new c) c 0 false ⟨#[]⟩ ⟨#[]⟩ 0:=⟨rfl,rfl,rfl,rfl,rfl,rfl,rfl,rfl,rfl,⟨Int.le_refl _,Int.le_refl _⟩,Nat.le_refl _,Nat.le_refl _⟩
theorem LkC.acts(h:LkC l c t wt o r n){rec:ByteArray}{m:MsgV}{er:Int}(F:rec.size≤1024)(i:er=0→SayOk m):LkC (l.acts c' rec m er) c' t wt (if er=0 then o++qez m else o) r (n+1):=by
 unfold Lk.acts;by_cases f:er=0
 ·rw[if_pos f,if_pos f];have H:=(i f).size;have C:=ql2 l.j.many.toNat rec;have q:=h.len;have v:=h.outn;have z:=h.many;refine⟨rfl,h.ticks,h.waits,?_,h.rest,h.dead,h.broken,h.fused,h.off,⟨?_,?_⟩,?_,?_⟩
  ·show l.out++qez m=_;rw[h.out]
  ·show 0≤l.j.many+1;omega
  ·show l.j.many+1≤((n+1:Nat):Int);omega
  ·show (l.j.bs++qsu l.j.many.toNat rec).size≤_;rw[ByteArray.size_append];omega
  ·rw[ByteArray.size_append];omega
 ·rw[if_neg f,if_neg f];have:=h.mono (Nat.le_succ n);exact⟨rfl,this.ticks,this.waits,this.out,this.rest,this.dead,this.broken,this.fused,this.off,this.many,this.len,this.outn⟩
end
structure HearC(c:Ch)(m:MsgV)(c':Ch)(ms:List MsgV):Prop where
 say:SayOk m
 kind:3≤m.kind∧m.kind≤9
 eq:c.hears m=(c',ms,0)
 inv:c.Inv
 last:c.last.length≤900000
 says:∀m∈ms,SayOk m
 few:ms.length≤1000
 xs:c'.xs.length≤1000
def qrg(m:MsgV)(wt:Bool):Bool:=if m.kind=9 then false else wt
section
variable {l L:Lk}{c c':Ch}{t:Int}{wt:Bool}{o r:ByteArray}{n:Nat}{m:MsgV}{ms:List MsgV}{es ES:List EvV}{E:Int}
theorem q4g(h:LkC l c t wt o (qez m++r) n)(f:HearC c m c' ms)(W:n+ms.length≤1000000)(N:es.length≤10000) :
  ∃C,LkC C c' t (qrg m wt) (qaq ms o) r (n+1+ms.length)∧∀L ES E,Bts C (es++qdk m wt c.xs c'.xs) L ES E→Bts l es L ES E:=by
 obtain⟨i,O,hd,F,v,H⟩:=f.say.dec r
 have q:(qct i).1=m:=by rw[hd]
 have z:(qct i).2=0:=by rw[hd]
 rw[←h.rest] at F v H
 have J:({l with rest:=frR l.rest} : Lk).hears es i=(Lk.heard {l with rest:=r,c:=c',j:=l.j.app (zq [qw 6 1,i]),out:=qaq ms l.out} m,es++qdk m wt c.xs c'.xs,0):=by
  unfold Lk.hears;rw[if_pos z,q];show Lk.hearD _ es m i (l.c.hears m)=_;rw[h.c,f.eq];show (Lk.hearR _ c' ms m i 0,qlv es m l.waits c.xs c'.xs 0,(0:Int))=_;rw[h.waits];unfold Lk.hearR qlv;rw[if_pos rfl,if_pos rfl,H]
 have K:LkC (Lk.heard {l with rest:=r,c:=c',j:=l.j.app (zq [qw 6 1,i]),out:=qaq ms l.out} m) c' t (qrg m wt) (qaq ms o) r (n+1+ms.length):=by
  have I:(zq [qw 6 1,i]).size≤1024:=by
   have R:(⟨#[]⟩:ByteArray).size=0:=rfl;unfold zq zq zq;simp only[ByteArray.size_append,qat];omega
  have X:=ql2 l.j.many.toNat (zq [qw 6 1,i]);have S:=h.len;have U:=h.many;have T:=h.outn;have V:=qhk ⟨#[]⟩ ms f.says o;refine⟨rfl,h.ticks,?_,?_,rfl,h.dead,h.broken,h.fused,h.off,⟨?_,?_⟩,?_,by omega⟩
  ·show (if m.kind=9 then false else l.waits)=_;rw[h.waits];rfl
  ·show qaq ms l.out=_;rw[h.out]
  ·show 0≤l.j.many+1;omega
  ·show l.j.many+1≤((n+1+ms.length:Nat):Int);omega
  ·show (l.j.bs++qsu l.j.many.toNat (zq [qw 6 1,i])).size≤_;rw[ByteArray.size_append];omega
 have M:LHearOk {l with rest:=frR l.rest} es (frT l.rest):=by
  rw[v];have ok:=h.ok (show n≤100000000 by omega);refine⟨⟨ok.dead,ok.fused,ok.off,ok.many,ok.len,ok.out⟩,N,O,fun _=> ?_⟩;rw[q];show (3≤m.kind∧m.kind≤9)∧l.c.Inv∧l.c.last.length≤900000∧(∀P∈(l.c.hears m).2.1,SayOk P)∧(l.c.hears m).2.1.length≤1000∧l.c.xs.length≤1000∧(l.c.hears m).1.xs.length≤1000;rw[h.c,f.eq];exact⟨f.kind,f.inv,f.last,f.says,f.few,by have:=f.inv.few;omega,f.xs⟩
 refine⟨_,K,fun L ES E next=> .step l es F M (by rw[v,J]) L ES E ?_⟩
 rw[v,J]
 exact next
theorem q8r(h:LkC l c t wt o ⟨#[]⟩ n):Bts l es l es 0:=by
 have i:¬qig l.rest:=by rw[h.rest];exact fun e=>absurd e.1 (by decide)
 have f:qeq l.rest=false:=by rw[h.rest];rfl
 have:=Bts.stop l es i;rw[f] at this;exact this
end
attribute [local go_sem ↓ high] zl qag qaj qar
attribute [local go_sem] qbl qcl qcn qx
theorem qtj(x:Int)(w:World):(qy0 #[(0,.int .u8 x)]).run Tryz.prog w = .ok (.agg (qu (x::List.replicate 31 0)).toArray) w:=run_build w _ _ _ (by kernel_rfl)
def qfi(x:Int):List Int:=x::List.replicate 31 0
def qcm(ours cap:Int):SetupV:=⟨9,cap,ours,qfi 3,⟨#[107]⟩,⟨#[108]⟩⟩
def qcd(ours cap:Int):SetupV:=⟨9,cap,IntKind.u64.wrap (cap-ours),qfi 4,⟨#[108]⟩,⟨#[107]⟩⟩
theorem qvf{ours cap:Int}(f:0≤ours∧ours<18446744073709551616)(i:0≤cap∧cap<18446744073709551616):(qcm ours cap).Ok:=⟨by show (0:Int)≤9∧(9:Int)<4294967296;decide,i,f,rfl⟩
theorem qvg{ours cap:Int}(f:0≤cap∧cap<18446744073709551616):(qcd ours cap).Ok:=⟨by show (0:Int)≤9∧(9:Int)<4294967296;decide,f,qs7 _,rfl⟩
def qv9(p:Array (Nat × Value)):Sem Value:=Instr.build 78 p
theorem qry(p:Array (Nat × Value)):Instr.build 78 p=qv9 p:=rfl
theorem q38(ours cap:Int)(w:World):(qv9 #[(0,.int .u32 9),(1,.int .u64 cap),(2,.int .u64 ours),(3,.agg (qu (qfi 3)).toArray),(4,.string ⟨#[107]⟩),(5,.string ⟨#[108]⟩)]).run Tryz.prog w = .ok (.agg (qcm ours cap).cells.toArray) w:=run_build w _ _ _ (by kernel_rfl)
theorem q39(o cap:Int)(w:World):(qv9 #[(0,.int .u32 9),(1,.int .u64 cap),(2,.int .u64 o),(3,.agg (qu (qfi 4)).toArray),(4,.string ⟨#[108]⟩),(5,.string ⟨#[107]⟩)]).run Tryz.prog w = .ok (.agg (SetupV.cells ⟨9,cap,o,qfi 4,⟨#[108]⟩,⟨#[107]⟩⟩).toArray) w:=run_build w _ _ _ (by kernel_rfl)
def q34(p:Array (Nat × Value)):Sem Value:=Instr.build 97 p
theorem qrz(p:Array (Nat × Value)):Instr.build 97 p=q34 p:=rfl
def qe0(a b:SetupV):List Value:=a.cells++b.cells
theorem Tryz.infoSt2T:(Tryz.prog.info? 97).map (·.size)=some 74:=by kernel_rfl
def q7p(x v:Value):Sem Unit:=Instr.storeAt 97 x v
theorem qft(x v:Value):Instr.storeAt 97 x v=q7p x v:=rfl
theorem qnz(b o:Nat)(A:Array Value)(w:World):(q7p (.pointer (some ⟨b,o,none⟩)) (.agg A)).run Tryz.prog w=if stOk w b o 74 A=true then .ok () (w.setCells b o A.toList) else qel Tryz.prog 97 w b o A :=
 qaw 97 74 Tryz.infoSt2T b o A w
def qhp:List Value:=ql9++ql9
def q3s:Sem Value:=Instr.alloc 97 true (.tuple #[])
theorem qfm:Instr.alloc 97 true (.tuple #[])=q3s:=rfl
theorem qne(w:World):q3s.run Tryz.prog w = .ok (.pointer (some ⟨w.heap.size,0,none⟩)) (w.alloc (.cells qhp.toArray 97)):=by kernel_rfl
theorem q8m(m f q i:Int)(w:World):(q34 #[(0,.agg (qcm m f).cells.toArray),(1,.agg (SetupV.cells ⟨9,i,q,qfi 4,⟨#[108]⟩,⟨#[107]⟩⟩).toArray)]).run Tryz.prog w = .ok (.agg (qe0 (qcm m f) ⟨9,i,q,qfi 4,⟨#[108]⟩,⟨#[107]⟩⟩).toArray) w:=run_build w _ _ _ (by kernel_rfl)
theorem SetupV.oneT(s:SetupV):∀v∈s.cells,v.oneCell'=true:=by
 intro v f;simp only[SetupV.cells,List.mem_cons,List.mem_append,List.mem_map,List.not_mem_nil,or_false] at f;rcases f with rfl | rfl | rfl | ⟨n,_,rfl⟩ | rfl | rfl<;>rfl
structure St2T(w:World)(b:Nat)(s t:SetupV):Prop where
 at_:w.heap[b]? = some (.cells (qe0 s t).toArray 97 (0,0))
 l1:s.seed.length=32
 l2:t.seed.length=32
theorem qid{s t:SetupV}(f:s.seed.length=32)(i:t.seed.length=32):(qe0 s t).length=74:=by unfold qe0;rw[List.length_append,s.len f,t.len i]
theorem St2T.upd{S:Nat→Prop}{w w':World}{b:Nat}{s t:SetupV}(a:St2T w b s t)(u:Upd S w w')(n:¬S b):St2T w' b s t:=⟨u.old a.at_ n,a.l1,a.l2⟩
theorem St2T.row0{w:World}{b:Nat}{s t:SetupV}(a:St2T w b s t):zf w b 0 37=some s.cells.toArray:=by
 rw[qb8 a.at_ 0 37 (by rw[List.size_toArray,qid a.l1 a.l2];omega)];congr 1;apply Array.ext';rw[Array.toList_extract];show List.extract (s.cells++t.cells) 0 37=s.cells;rw[List.extract_eq_take_drop,List.drop_zero,List.take_append_of_le_length (by rw[s.len a.l1];exact Nat.le_refl _),List.take_of_length_le (by rw[s.len a.l1];exact Nat.le_refl _)]
theorem St2T.row1{w:World}{b:Nat}{s t:SetupV}(a:St2T w b s t):zf w b 37 37=some t.cells.toArray:=by
 rw[qb8 a.at_ 37 37 (by rw[List.size_toArray,qid a.l1 a.l2];omega)];congr 1;apply Array.ext';rw[Array.toList_extract];show List.extract (s.cells++t.cells) 37 74=t.cells;rw[List.extract_eq_take_drop,qoh (s.len a.l1),List.take_of_length_le (by rw[t.len a.l2];exact Nat.le_refl _)]
theorem qki{w:World}{b:Nat}(h:w.heap[b]? = some (.cells qhp.toArray 97 (0,0))){s t:SetupV}(f:s.seed.length=32)(i:t.seed.length=32) :
  stOk w b 0 74 (qe0 s t).toArray=true∧St2T (w.setCells b 0 (qe0 s t)) b s t:=by
 have m:=qid f i
 refine⟨qem (C:=qhp.toArray) h (by rw[m];rfl) (fun v q=>(List.mem_append.1 q).elim (s.oneT v) (t.oneT v)),⟨?_,f,i⟩⟩
 rw[qba h 0 _]
 exact congrArg (fun z=>some (Obj.cells z 97 (0,0))) (qcz qhp.toArray (qe0 s t) (by rw[m];rfl))
attribute [local go_sem ↓ high] qry qrz qft qfm
attribute [local go_sem] q8m qnz qne q38 q39
theorem qmz(ours cap:Int)(w:World):Calls Tryz.prog 42 #[.int .u64 ours,.int .u64 cap] w (qa7 (.agg (qe0 (qcm ours cap) (qcd ours cap)).toArray) w):=by
 go_enter Tryz.func42,Tryz.ntmps42;go_upto_region 1 with fail;have r:=qj w (.cells qhp.toArray 97);have z:qq w (w.alloc (.cells qhp.toArray 97)):=(Upd.refl _ _).alloc _;generalize w.alloc (.cells qhp.toArray 97)=w1 at r z ⊢;obtain⟨B,q⟩:∃B,B=w.heap.size:=⟨_,rfl⟩;rw[←q] at r ⊢;have L:w.heap.size≤B:=by omega
 clear q;obtain⟨v,m⟩:=qki r (s:=qcm ours cap) (t:=qcd ours cap) rfl rfl;have f:qcd ours cap=⟨9,cap,IntKind.u64.wrap (cap-ours),qfi 4,⟨#[108]⟩,⟨#[107]⟩⟩:=rfl;have J:=fun W=>qtj 3 W
 have K:=fun W=>qtj 4 W
 have F:(3:Int)::List.replicate 31 0=qfi 3:=rfl;have H:(4:Int)::List.replicate 31 0=qfi 4:=rfl;rw[F] at J;rw[H] at K;have C:=qb m;have E:=qb (z.then (zc (w:=w1) (b:=B) (qe0 (qcm ours cap) (qcd ours cap))) (fun i M e=>by omega));clear m r z F H;rw[f] at v C E;have I:=qb f;clear f;go_wp2_with fail;have m:=qa C;rw[qa I];exact bodyPost_ret (results_cell_row rfl _ _ B _ _ _ _ rfl m.at_ Tryz.underlying97 rfl (by rw[List.size_toArray,qid m.l1 m.l2];exact Tryz.infoSt2T)) rfl ⟨rfl,qa E⟩
end
section
open Go.RowKit
theorem q2w{ours cap:Int}(h:1≤cap∧cap≤1125899906842624∧ours≤cap):(qcm ours cap).may:=⟨h.1,h.2.1,h.2.2,by show 1≤64;decide,by show 1≤64;decide⟩
theorem q2x{ours cap:Int}(f:0≤ours)(h:1≤cap∧cap≤1125899906842624∧ours≤cap):(qcd ours cap).may:=by
 refine⟨h.1,h.2.1,?_,by show 1≤64;decide,by show 1≤64;decide⟩;show IntKind.u64.wrap (cap-ours)≤cap;rw[qgs (by omega) (by omega)];omega
def qq0(x y:Value):List Value:=[x,y,.string ⟨#[]⟩,.string ⟨#[]⟩,.bool false]
structure Lt(w0 w:World)(p g:Nat)(S:Nat→Prop)(L:Lk):Prop where
 cell:w.cell? ⟨p,0,none⟩=some (.pointer (some ⟨g,0,none⟩))
 lk:LkS w g S L
 ge:∀i,S i→w0.heap.size≤i
 pge:w0.heap.size≤p
 pS:¬S p
 plt:p<w.heap.size
 new:qq w0 w
theorem Lt.nw{w0 w w':World}{p g:Nat}{S:Nat→Prop}{L:Lk}(h:Lt w0 w p g S L)(u:qq w w'):Lt w0 w' p g S L :=
 ⟨u.cell h.cell (fun h=>h),h.lk.new u,h.ge,h.pge,h.pS,Nat.lt_of_lt_of_le h.plt u.size,h.new.trans u⟩
attribute [local go_sem ↓ high] qft qfm qb5
attribute [local go_sem] qx qnz qne qeg
end
section
open Go.RowKit
def qbn{α:Type}(f:Nat→α)(k:Nat)(x:α):Nat→α:=fun i=>if i=k then x else f i
theorem qbx{α:Type}(f:Nat→α)(k:Nat)(x:α):qbn f k x k=x:=if_pos rfl
theorem qc5{α:Type}(f:Nat→α){k i:Nat}(x:α)(h:i≠k):qbn f k x i=f i:=if_neg h
structure Pw where
 l:Nat→Lk
 es:Nat→List EvV
 way:Nat→ByteArray
 bad:Bool
def qsv(g:Nat→Nat)(P:Pw):List Value:=[.pointer (some ⟨g 0,0,none⟩),.pointer (some ⟨g 1,0,none⟩),.string (P.way 0),.string (P.way 1),.bool P.bad]
structure PwS(K:Nat→Obj→Prop)(w0 w:World)(p:Nat)(g:Nat→Nat)(S:Nat→Nat→Prop)(P:Pw):Prop where
 at_:w.heap[p]? = some (.cells (qsv g P).toArray 32 (0,0))
 lk:∀k,k<2→LkV w (g k) (S k) (P.l k) (P.es k)
 sep:∀i,S 0 i→¬S 1 i
 ge:∀k,k<2→∀i,S k i→w0.heap.size≤i
 pge:w0.heap.size≤p
 pS:∀k,k<2→¬S k p
 new:qq w0 w
 keep:∀B o,K B o→w.heap[B]? = some o∧B≠p∧∀k,k<2→¬S k B
def PwD(K:Nat→Obj→Prop)(w0 w:World)(p:Nat)(P:Pw):Prop:=∃g S,PwS K w0 w p g S P
theorem q8n{w:World}{B:Nat}{o:Obj}(h:w.heap[B]? = some o):B<w.heap.size:=by
 by_cases e:B<w.heap.size
 ·exact e
 ·rw[Array.getElem?_eq_none (by omega)] at h;cases h
section
variable {K:Nat→Obj→Prop}{w0 w w':World}{p:Nat}{g:Nat→Nat}{S:Nat→Nat→Prop}{P:Pw}{k:Nat}
theorem PwS.cl(h:PwS K w0 w p g S P)(f:k<2):w.cell? ⟨p,k,none⟩=some (.pointer (some ⟨g k,0,none⟩)):=by
 rcases (by omega:k=0∨k=1) with rfl | rfl
 ·exact qg h.at_ 0
 ·exact qg h.at_ 1
theorem PwS.cw(h:PwS K w0 w p g S P)(f:k<2):w.cell? ⟨p,2+k,none⟩=some (.string (P.way k))∧w.frozen? ⟨p,2+k,none⟩=false:=by
 rcases (by omega:k=0∨k=1) with rfl | rfl
 ·exact⟨qg h.at_ 2,qv h.at_ 2⟩
 ·exact⟨qg h.at_ 3,qv h.at_ 3⟩
theorem PwS.cb(h:PwS K w0 w p g S P):w.cell? ⟨p,4,none⟩=some (.bool P.bad)∧w.frozen? ⟨p,4,none⟩=false:=⟨qg h.at_ 4,qv h.at_ 4⟩
theorem PwS.nw(h:PwS K w0 w p g S P)(n:qq w w'):PwS K w0 w' p g S P :=
 ⟨n.old h.at_ (fun h=>h),fun k f=>(h.lk k f).new n,h.sep,h.ge,h.pge,h.pS,h.new.trans n,fun B o e=>⟨n.old (h.keep B o e).1 (fun h=>h),(h.keep B o e).2⟩⟩
theorem PwS.apart(h:PwS K w0 w p g S P)(v:k<2){j:Nat}(r:j<2)(q:j≠k):∀i,S j i→¬S k i:=by
 rcases (by omega:k=0∨k=1) with rfl | rfl
 ·obtain rfl:j=1:=by omega
  exact fun i m f=>h.sep i f m
 ·obtain rfl:j=0:=by omega
  exact fun i f m=>h.sep i f m
theorem PwS.op(h:PwS K w0 w p g S P)(m:k<2)(u:Upd (S k) w w'){L:Lk}{v:List EvV}(I:LkV w' (g k) (Fr (S k) w w') L v) :
  PwS K w0 w' p g (qbn S k (Fr (S k) w w')) {P with l:=qbn P.l k L,es:=qbn P.es k v} := by
 have O:=h.new.size
 have r:∀j,j<2→∀i,S j i→i<w.heap.size:=fun j f=>(h.lk j f).lt
 have J:=zr h.at_
 have q:∀j i,qbn S k (Fr (S k) w w') j i→(j≠k∧S j i)∨(j=k∧Fr (S k) w w' i):=by
  intro j i e;by_cases f:j=k
  ·subst f;rw[qbx] at e;exact .inr ⟨rfl,e⟩
  ·rw[qc5 _ _ f] at e;exact .inl ⟨f,e⟩
 refine⟨u.old h.at_ (h.pS k m),?_,?_,?_,h.pge,?_,h.new.then u (fun i N e=>by have:=h.ge k m i e;omega),fun B o e=>⟨u.old (h.keep B o e).1 ((h.keep B o e).2.2 k m),(h.keep B o e).2.1,fun j f F=>by
  have M:=q8n (h.keep B o e).1;rcases q j B F with ⟨-,a⟩ | ⟨-,a⟩
  ·exact(h.keep B o e).2.2 j f a
  ·exact a.elim ((h.keep B o e).2.2 k m) (fun a=>by omega)⟩⟩
 ·intro j f;by_cases e:j=k
  ·subst e;show LkV w' (g j) (qbn S j _ j) (qbn P.l j L j) (qbn P.es j v j);rw[qbx,qbx,qbx];exact I
  ·show LkV w' (g j) (qbn S k _ j) (qbn P.l k L j) (qbn P.es k v j);rw[qc5 _ _ e,qc5 _ _ e,qc5 _ _ e];exact(h.lk j f).upd u (h.apart m f e)
 ·intro i H C;rcases q 0 i H with ⟨E,a⟩ | ⟨E,a⟩
  ·rcases q 1 i C with ⟨z,b⟩ | ⟨z,b⟩
   ·exact h.sep i a b
   ·subst z;exact b.elim (fun b=>h.sep i a b) (fun b=>by have:=r 0 (by decide) i a;omega)
  ·subst E;rcases q 1 i C with ⟨z,b⟩ | ⟨z,b⟩
   ·exact a.elim (fun a=>h.sep i a b) (fun a=>by have:=r 1 (by decide) i b;omega)
   ·omega
 ·intro j f i e;rcases q j i e with ⟨-,a⟩ | ⟨-,a⟩
  ·exact h.ge j f i a
  ·exact a.elim (h.ge k m i) (fun a=>by omega)
 ·intro j f e;rcases q j p e with ⟨-,a⟩ | ⟨-,a⟩
  ·exact h.pS j f a
  ·exact a.elim (h.pS k m) (fun a=>by omega)
theorem PwS.put(h:PwS K w0 w p g S P){i:Nat}{v:Value}{f:Pw}(z:(qsv g P).toArray.setIfInBounds i v=(qsv g f).toArray)(C:f.l=P.l)(E:f.es=P.es):PwS K w0 (w.setCell ⟨p,i,none⟩ v) p g S f:=by
 have u:Upd (· = p) w (w.setCell ⟨p,i,none⟩ v):=(Upd.refl _ _).set1 _ _;refine⟨?_,fun k q=> ?_,h.sep,h.ge,h.pge,h.pS,h.new.then u (fun j m e=>by have e:j=p:=e;have:=h.pge;omega),fun B o e=>⟨u.old (h.keep B o e).1 (fun r=>(h.keep B o e).2.1 r),(h.keep B o e).2⟩⟩
 ·have:=qad h.at_ i v;rw[z] at this;exact this
 ·rw[C,E];exact(h.lk k q).upd u (fun j m e=>by have e:j=p:=e;rw[e] at m;exact h.pS k q m)
theorem PwS.putWay(h:PwS K w0 w p g S P)(f:k<2)(s:ByteArray):PwS K w0 (w.setCell ⟨p,2+k,none⟩ (.string s)) p g S {P with way:=qbn P.way k s} := by
 rcases (by omega:k=0∨k=1) with rfl | rfl
 ·exact h.put rfl rfl rfl
 ·exact h.put rfl rfl rfl
theorem PwS.putBad(h:PwS K w0 w p g S P)(b:Bool):PwS K w0 (w.setCell ⟨p,4,none⟩ (.bool b)) p g S {P with bad:=b} := h.put rfl rfl rfl
theorem PwS.tb(h:PwS K w0 w p g S P)(f:Tb w0):Tb w:=f.new h.new
theorem PwS.ap(h:PwS K w0 w p g S P)(i:Tb w0)(f:k<2):Apart (S k):=by
 obtain⟨a,b,c,d,e⟩:=i.lt;exact⟨fun x=>by have:=h.ge k f _ x;omega,fun x=>by have:=h.ge k f _ x;omega,fun x=>by have:=h.ge k f _ x;omega,fun x=>by have:=h.ge k f _ x;omega,fun x=>by have:=h.ge k f _ x;omega⟩
end
def Pw.flow1(P:Pw)(k:Nat):Pw:= {P with l:=qbn P.l k {P.l k with out:=⟨#[]⟩},es:=qbn P.es k (P.es k),way:=qbn P.way (1-k) (P.way (1-k)++(P.l k).out)}
def Pw.flow(P:Pw):Pw:=(P.flow1 0).flow1 1
theorem qg2(K:Nat→Obj→Prop)(w0 w:World)(p:Nat)(P:Pw)(h:PwD K w0 w p P)(hd:∀k,k<2→(P.l k).dead=false)(X:∀k,k<2→(P.way k).size≤1000000000∧(P.l k).out.size≤1000000000) :
  Calls Tryz.prog 14 #[.pointer (some ⟨p,0,none⟩)] w fun e w'=>e = .returned (.tuple #[])∧PwD K w0 w' p P.flow:=by
 have T:=qb h
 have v:=qb (And.intro hd X)
 clear h hd X
 go_enter Tryz.func14,Tryz.ntmps14
 go_wp2_with fail
 go_loopw [2] (fun R wr=>∃i:Nat,R = .int .i64 (i:Int)∧i≤2∧Hid (PwD K w0 wr p (if i=0 then P else if i=1 then P.flow1 0 else P.flow))) (fun R _=>2-(intOf R).toNat)
 case atStart=>exact⟨0,rfl,by omega,T⟩
 case round =>
  obtain⟨i,rfl,Z,hrel⟩:=hrel;obtain⟨f,rfl⟩:∃f:World,f=wr:=⟨_,rfl⟩;clear T;rcases (by omega:i=0∨i=1∨i=2) with rfl | rfl | rfl
  ·obtain⟨g,S,h⟩:PwD K w0 f p P:=qa hrel;have cl:=h.cl (k:=0) (by decide);have E:=(h.cw (k:=1) (by decide)).1;have J:=zcl (g 0) (S 0) (P.l 0) (P.es 0) f.drew (h.lk 0 (by decide) |>.new (Upd.drew (Upd.refl _ _))) ((qa v).1 0 (by decide));have H:f.drew.cell? ⟨p,0,none⟩=some (.pointer (some ⟨g 0,0,none⟩))∧f.drew.cell? ⟨p,3,none⟩=some (.string (P.way 1)):=⟨cl,E⟩;have O:(P.way 1).size+(P.l 0).out.size≤9223372036854775807:=by have:=(qa v).2 1 (by decide);have:=(qa v).2 0 (by decide);omega
   have M:=qb h;clear h cl E hrel;go_upto_region 3 with fail;refine qa1 (fun w'=>w'.cell? ⟨p,0,none⟩=some (.pointer (some ⟨g 0,0,none⟩))∧w'.cell? ⟨p,3,none⟩=some (.string (P.way 1))) [9,15] (.of [0,1,2,3,4,5,6,7,8,9,10,11,12,13,14,15,16,17,18,19,20,21]) (by kernel_rfl) (by kernel_rfl) H ?_;simp only[Plan.of];go_wp2_with (with_reducible first|(first|refine' zv (qh ?_) ?_|refine' zx (qh ?_) ?_|refine' zy (qh ?_) ?_);rotate_left|refine' zz (qh ?_)|refine' qw5 (qh ?_)|rfl|apply qn);refine J.mono ?_;rintro e w1 ⟨rfl,I,u⟩;have m:=((qa M).nw (Upd.drew (Upd.refl _ _))).op (by decide) u I;have N:w1.cell? ⟨p,0,none⟩=some (.pointer (some ⟨g 0,0,none⟩)):=m.cl (k:=0) (by decide);obtain⟨q,F⟩:=m.cw (k:=1) (by decide);have q:w1.cell? ⟨p,3,none⟩=some (.string (P.way 1)):=q;have F:w1.frozen? ⟨p,3,none⟩=false:=F;have C:PwS K w0 (w1.setCell ⟨p,3,none⟩ (.string (P.way 1++(P.l 0).out))) p g (qbn S 0 (Fr (S 0) f.drew w1)) (P.flow1 0):=m.putWay (k:=1) (by decide) _;have L:=qb C;have r:=And.intro N q;clear J m C I u H;go_wp2_with (first | (with_reducible first|(first|refine' zv (qh ?_) ?_|refine' zx (qh ?_) ?_|refine' zy (qh ?_) ?_);rotate_left|refine' zz (qh ?_)|refine' qw5 (qh ?_)|rfl|apply qn) | refine⟨r,?_⟩ | refine⟨trivial,?_⟩);go_roundw
   case rel=>exact⟨1,rfl,by omega,qb ⟨g,_,qa L⟩⟩
   case measure=>decide
  ·obtain⟨g,S,h⟩:PwD K w0 f p (P.flow1 0):=qa hrel;have cl:=h.cl (k:=1) (by decide);have E:=(h.cw (k:=0) (by decide)).1;have V:(P.flow1 0).l 1=P.l 1:=rfl;have U:(P.flow1 0).way 0=P.way 0:=rfl;have J:=zcl (g 1) (S 1) ((P.flow1 0).l 1) ((P.flow1 0).es 1) f.drew (h.lk 1 (by decide) |>.new (Upd.drew (Upd.refl _ _))) ((qa v).1 1 (by decide));have O:((P.flow1 0).way 0).size+((P.flow1 0).l 1).out.size≤9223372036854775807:=by rw[V,U];have:=(qa v).2 1 (by decide);have:=(qa v).2 0 (by decide);omega
   clear U V;have W:(P.flow1 0).flow1 1=P.flow:=rfl;have Y:=qb W;clear W;generalize P.flow1 0=z at *
   have H:f.drew.cell? ⟨p,1,none⟩=some (.pointer (some ⟨g 1,0,none⟩))∧f.drew.cell? ⟨p,2,none⟩=some (.string (z.way 0)):=⟨cl,E⟩;have M:=qb h;clear h cl E hrel;go_upto_region 3 with fail;refine qa1 (fun w'=>w'.cell? ⟨p,1,none⟩=some (.pointer (some ⟨g 1,0,none⟩))∧w'.cell? ⟨p,2,none⟩=some (.string (z.way 0))) [9,15] (.of [0,1,2,3,4,5,6,7,8,9,10,11,12,13,14,15,16,17,18,19,20,21]) (by kernel_rfl) (by kernel_rfl) H ?_;simp only[Plan.of];go_wp2_with (with_reducible first|(first|refine' zv (qh ?_) ?_|refine' zx (qh ?_) ?_|refine' zy (qh ?_) ?_);rotate_left|refine' zz (qh ?_)|refine' qw5 (qh ?_)|rfl|apply qn);refine J.mono ?_;rintro e w1 ⟨rfl,I,u⟩;have m:=((qa M).nw (Upd.drew (Upd.refl _ _))).op (by decide) u I;have N:w1.cell? ⟨p,1,none⟩=some (.pointer (some ⟨g 1,0,none⟩)):=m.cl (k:=1) (by decide);obtain⟨q,F⟩:=m.cw (k:=0) (by decide);have q:w1.cell? ⟨p,2,none⟩=some (.string (z.way 0)):=q;have F:w1.frozen? ⟨p,2,none⟩=false:=F;have C:PwS K w0 (w1.setCell ⟨p,2,none⟩ (.string (z.way 0++(z.l 1).out))) p g (qbn S 1 (Fr (S 1) f.drew w1)) (z.flow1 1):=m.putWay (k:=0) (by decide) _;rw[qa Y] at C;have L:=qb C;have r:=And.intro N q;clear J m C I u H;go_wp2_with (first | (with_reducible first|(first|refine' zv (qh ?_) ?_|refine' zx (qh ?_) ?_|refine' zy (qh ?_) ?_);rotate_left|refine' zz (qh ?_)|refine' qw5 (qh ?_)|rfl|apply qn) | refine⟨r,?_⟩ | refine⟨trivial,?_⟩);go_roundw
   case rel=>exact⟨2,rfl,by omega,qb ⟨g,_,qa L⟩⟩
   case measure=>decide
  ·go_wp2_with fail;go_end0;exact⟨rfl,qa hrel⟩
end
end Go.Proofs.YtfmkdoachjgjbaaGreatDoor
