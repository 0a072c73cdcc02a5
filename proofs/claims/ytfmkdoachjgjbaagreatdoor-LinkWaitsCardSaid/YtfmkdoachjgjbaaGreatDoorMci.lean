/-
  A link with its events: Out, Events, Tick, Cut, Channel.
-/
import Derived.Test.YtfmkdoachjgjbaaGreatDoorMch
import Derived.Test.YtfmkdoachjgjbaaGreatDoorMcg
import Derived.Test.YtfmkdoachjgjbaaGreatDoorMba
import Derived.Test.YtfmkdoachjgjbaaGreatDoorMaf
import Derived.Test.YtfmkdoachjgjbaaGreatDoorMbe
import Derived.Test.YtfmkdoachjgjbaaGreatDoorMbj
set_option maxRecDepth 100000
set_option maxHeartbeats 4000000
set_option linter.unusedVariables false
set_option linter.unusedSimpArgs false
namespace Go.Proofs.YtfmkdoachjgjbaaGreatDoor
section
open Go.RowKit
section
variable {w w':World}{g:Nat}{S T:Nat→Prop}{l:Lk}{es:List EvV}
theorem LkV.lt(h:LkV w g S l es):∀k,S k→k<w.heap.size:=by
 obtain⟨sp,en,lo,h⟩:=h;exact h.lt
theorem LkV.new(h:LkV w g S l es)(n:qu w w'):LkV w' g S l es:=by
 obtain⟨sp,en,lo,h⟩:=h;exact⟨sp,en,lo,h.new n⟩
theorem LkV.upd(h:LkV w g S l es)(u:Upd T w w')(hd:∀k,S k→¬T k):LkV w' g S l es:=by
 obtain⟨sp,en,lo,h⟩:=h;exact⟨sp,en,lo,h.upd u hd⟩
theorem LkV.wider(h:LkV w g S l es)(i:∀k,S k→T k)(f:∀k,T k→k<w.heap.size):LkV w g T l es:=by
 obtain⟨sp,en,lo,h⟩:=h;exact⟨sp,en,lo,h.wider i f⟩
theorem LkV.ev{v:Value}(h:LkV w g S {l with ev:=v} es):LkV w g S l es:=by
 obtain⟨sp,en,lo,f,i,m,ev,h⟩:=h;exact⟨sp,en,lo,f,i,m,ev,h.lk,h.row,h.out,h.inE,h.in0,h.lt⟩
theorem LkS.toV(h:LkS w g S l)(m:l.ev=qbw):LkV w g S l []:=by
 obtain⟨sp,en,lo,f,i,h⟩:=h;have e:({l with ev:=qbw} : Lk)=l:=by rw[←m]
 refine⟨sp,en,lo,S,f,i,qbw,⟨?_,qin.nil _,(fun k e=>by cases e),(fun k e=>by cases e),(fun k e=>e),h.lt⟩⟩;rw[e];exact h
end
theorem zc2(g:Nat)(S:Nat→Prop)(l:Lk)(es:List EvV)(w:World)(h:LkV w g S l es)(hd:l.dead=false) :
  Calls Tryz.prog 44 #[.pointer (some ⟨g,0,none⟩)] w fun e w'=>e = .returned (.string l.out)∧LkV w' g (Fr S w w') {l with out:=⟨#[]⟩} es∧Upd S w w':=by
 obtain⟨sp,en,lo,i,m,p,ev,h⟩:=h
 refine(q92 g i {l with ev:=ev} w ⟨sp,en,lo,m,p,h.lk⟩ hd).mono ?_
 rintro e w' ⟨rfl,f,u⟩
 have:=LkV.lift (L:= {l with out:=⟨#[]⟩}) h u (f.wider (fun k e=> .inl e) (fun k e=>e.elim (fun e=>f.lt k e) (fun e=>e.2)))
 exact⟨rfl,this.1,this.2⟩
theorem qzt(g:Nat)(S:Nat→Prop)(l:Lk)(es:List EvV)(w:World)(h:LkV w g S l es)(hd:l.dead=false) :
  Calls Tryz.prog 16 #[.pointer (some ⟨g,0,none⟩)] w fun e w'=>∃ev,e = .returned ev∧qin w' ev es∧LkV w' g S l []∧Upd S w w'∧(∀k,ev.ownBlock=some k→S k)∧(∃f,LkV w' g f l []∧(∀k,f k→S k)∧∀k,ev.ownBlock=some k→¬f k):=by
 obtain⟨sp,en,lo,i,z,C,ev,h⟩:=h
 obtain⟨a,cap,v⟩:=zv h.row
 refine(quq g i {l with ev:=ev} w a es.length cap ⟨sp,en,lo,z,C,h.lk⟩ hd v).mono ?_
 rintro e w' ⟨rfl,E,u⟩
 have q:=h.lk.inG
 have F:qin w' ev es:=h.row.upd u (fun k e m=>h.out k e (by have m:k=g:=m;rw[m];exact q))
 have p:LkV w' g i l []:=by
  have:=E.toV rfl;exact this.ev.ev
 refine⟨ev,by rw[v],F,p.wider h.in0 (fun k e=>Nat.lt_of_lt_of_le (h.lt k e) u.size),u.mono (fun k _ e=>by have e:k=g:=e;rw[e];exact h.in0 g q),h.inE,i,p,h.in0,h.out⟩
noncomputable def Lk.tick(l:Lk)(n:Nat):Lk:=if l.waits=true∨(n+1)%3≠0 then {l with ticks:=(n:Int)+1} else ({l with ticks:=(n:Int)+1} : Lk).signs
noncomputable def Lk.tickE(l:Lk)(n:Nat):Int:=if l.waits=true∨(n+1)%3≠0 then 0 else qlg l.c.sign.2.2
theorem zea(g:Nat)(S:Nat→Prop)(l:Lk)(es:List EvV)(n:Nat)(w:World)(h:LkV w g S l es)(i:LkOkW l)(P:l.ticks=n)(p:n<1000000)(I:l.c.sign.2.2=0→SayOk l.c.sign.2.1)(O:l.c.sign.2.1.hash.length=32)(Y:Tc w)(X:ApC S)
  (H:l.c.s.key.size≤100000000) (N:0≤l.c.s.ch∧l.c.s.ch<4294967296) (E:l.c.news.length<1000000) (U:l.c.xs.length≤16) :
  Calls Tryz.prog 28 #[.pointer (some ⟨g,0,none⟩)] w fun e w'=>e = .returned (.int .i64 (l.tickE n))∧LkV w' g (Fr S w w') (l.tick n) es∧Upd S w w':=by
 obtain⟨sp,en,lo,J,V,W,ev,h⟩:=h
 have R:LkS w g J {l with ev:=ev} := ⟨sp,en,lo,V,W,h.lk⟩
 by_cases M:l.waits=true
 ·have z:l.tick n = {l with ticks:=(n:Int)+1} := by unfold Lk.tick;rw[if_pos (.inl M)]
  have C:l.tickE n=0:=by unfold Lk.tickE;rw[if_pos (.inl M)]
  rw[z,C];refine(qyl g J {l with ev:=ev} n w R i.dead M P p).mono ?_;rintro e w' ⟨rfl,f,u⟩;have:=LkV.lift (L:= {l with ticks:=(n:Int)+1}) h u (f.wider (fun k e=> .inl e) (fun k e=>e.elim (fun e=>f.lt k e) (fun e=>e.2)));exact⟨rfl,this.1,this.2⟩
 ·have q:l.waits=false:=by simpa using M
  have F:LkOk {l with ev:=ev} := ⟨i.dead,q,i.fused,i.off,i.many,i.len,i.out⟩;by_cases v:(n+1)%3=0
  ·have z:l.tick n=({l with ticks:=(n:Int)+1} : Lk).signs:=by unfold Lk.tick;rw[if_neg (by simp[q,v])]
   have C:l.tickE n=qlg l.c.sign.2.2:=by unfold Lk.tickE;rw[if_neg (by simp[q,v])]
   rw[z,C];refine(qyk g J {l with ev:=ev} n w R F P p v I O Y (X.mono h.in0) H N E U).mono ?_;rintro e w' ⟨rfl,f,u⟩;have Z:Lk.signs {l with ev:=ev,ticks:=(n:Int)+1} = {(({l with ticks:=(n:Int)+1} : Lk).signs) with ev:=ev} := by
    show Lk.acts _ l.c.sign.1 _ l.c.sign.2.1 l.c.sign.2.2 = {(Lk.acts _ l.c.sign.1 _ l.c.sign.2.1 l.c.sign.2.2:Lk) with ev:=ev};generalize l.c.sign.1=c';generalize l.c.sign.2.1=m;generalize l.c.sign.2.2=er;unfold Lk.acts;by_cases K:er=0
    ·rw[if_pos K,if_pos K];rfl
    ·rw[if_neg K,if_neg K]
   rw[Z] at f;have:=LkV.lift h u f;exact⟨rfl,this.1,this.2⟩
  ·have z:l.tick n = {l with ticks:=(n:Int)+1} := by unfold Lk.tick;rw[if_pos (.inr v)]
   have C:l.tickE n=0:=by unfold Lk.tickE;rw[if_pos (.inr v)]
   rw[z,C];refine(qs5 g J {l with ev:=ev} n w R F P p v).mono ?_;rintro e w' ⟨rfl,f,u⟩;have:=LkV.lift (L:= {l with ticks:=(n:Int)+1}) h u (f.wider (fun k e=> .inl e) (fun k e=>e.elim (fun e=>f.lt k e) (fun e=>e.2)));exact⟨rfl,this.1,this.2⟩
theorem zd8(g:Nat)(S:Nat→Prop)(l:Lk)(m:qns l.c)(es:List EvV)(w:World)(h:LkV w g S l es)(f:LkOkW l)(i:SayOk (qa2 l.c.cut))(C:Tabs w)(p:ApD S) :
  Calls Tryz.prog 25 #[.pointer (some ⟨g,0,none⟩)] w fun e w'=>e = .returned (.int .i64 0)∧LkV w' g (Fr S w w') (l.cut (zc 7 1)) es∧Upd S w w':=by
 obtain⟨sp,en,lo,q,v,z,ev,h⟩:=h
 refine(q6i g q {l with ev:=ev} m w ⟨sp,en,lo,v,z,h.lk⟩ ⟨f.dead,f.fused,f.off,f.many,f.len,f.out⟩ i C ⟨fun e=>p.c (h.in0 _ e),fun e=>p.d (h.in0 _ e)⟩).mono ?_
 rintro e w' ⟨rfl,E,u⟩
 have:=LkV.lift (L:=l.cut (zc 7 1)) h u E
 exact⟨rfl,this.1,this.2⟩
theorem zc0(g:Nat)(S:Nat→Prop)(l L:Lk)(es f:List EvV)(E:Int)(s:ByteArray)(w:World)(h:LkV w g S l es)(i:l.dead=false)(C:l.broken=false)(m:qeo l.rest=false)(p:l.rest.size+s.size≤1000000000)(z:Tb w)(q:Apart S)(v:Bts {l with rest:=l.rest++s} es L f E) :
  Calls Tryz.prog 24 #[.pointer (some ⟨g,0,none⟩),.string s] w fun e w'=>e = .returned (.int .i64 E)∧LkV w' g (Fr S w w') L f∧Upd S w w':=by
 obtain⟨sp,en,lo,h⟩:=h
 refine(qxe g S l L es f E s sp en lo w h i C m p z q v).mono ?_
 rintro e w' ⟨rfl,u,h⟩
 exact⟨rfl,⟨sp,en,lo,h⟩,u⟩
theorem zd7(g:Nat)(S:Nat→Prop)(l:Lk)(es:List EvV)(w:World)(h:LkV w g S l es):∃en f,ChS w en f l.c∧(∀k,f k→S k)∧Calls Tryz.prog 19 #[.pointer (some ⟨g,0,none⟩)] w (qay (.pointer (some ⟨en,0,none⟩)) w):=by
 obtain⟨sp,en,lo,i,f,m,ev,h⟩:=h;exact⟨en,f,h.lk.chn,fun k e=>h.in0 k (h.lk.inC k e),q4r g _ w h.lk.at_⟩
theorem bx{a b:ByteArray}(h:a.data.toList=b.data.toList):a=b:=by
 cases a;cases b;simp only at h;rw[ByteArray.mk.injEq];exact Array.ext' h
theorem qn5(a b:ByteArray):(a++b).data.toList=a.data.toList++b.data.toList:=by simp
theorem qkl(a b c:ByteArray):(a++b)++c=a++(b++c):=bx (by simp only[qn5,List.append_assoc])
theorem qr1(s:ByteArray)(i j:Nat):(s.extract i j).data.toList=(s.data.toList.drop i).take (j-i):=by
 rw[ByteArray.data_extract,Array.toList_extract,List.extract_eq_take_drop]
theorem qjh(s:ByteArray):s.data.toList.length=s.size:=by rw[Array.length_toList];rfl
theorem qm7(a b:ByteArray):(a++b).extract a.size (a++b).size=b:=bx (by
 rw[qr1,qn5,List.drop_append,List.drop_of_length_le (by rw[qjh];exact Nat.le_refl _),qjh,List.nil_append,Nat.sub_self,List.drop_zero,ByteArray.size_append,List.take_of_length_le (by rw[qjh];omega)])
theorem q4o(a b:ByteArray):(a++b).extract 0 a.size=a:=bx (by
 rw[qr1,qn5,List.drop_zero,Nat.sub_zero,List.take_append_of_le_length (by rw[qjh];exact Nat.le_refl _),List.take_of_length_le (by rw[qjh];exact Nat.le_refl _)])
theorem qrz(l:List Int)(r:ByteArray)(i:Nat)(x:Int)(m:l[i]? = some x)(p:0≤x∧x≤255):bt (strOfNums l++r) i=x:=by
 have f:=(List.getElem?_eq_some_iff.1 m).1;unfold bt;rw[qn5,strOfNums_data,List.getD_eq_getElem?_getD,List.getElem?_append_left (by simpa using f),List.getElem?_map,m];show ((UInt8.ofNat x.toNat).toNat:Int)=x;rw[UInt8.toNat_ofNat_of_lt' (by show x.toNat<256;omega)];omega
theorem qzl(n w:Nat)(r:ByteArray)(f:n<2 ^ (8*w)):∀i,i≤w→rdN (zc n w++r) i=(n:Int) / 2 ^ (8*(w-i))
 | 0,_=>by
  symm;refine Int.ediv_eq_zero_of_lt (by omega) ?_;exact_mod_cast f
 | i+1,h=>by
  have v:=qzl n w r f i (by omega);have q:bt (zc n w++r) i=(n:Int) / 2 ^ (8*(w-1-i))%256:=by
   refine qrz _ r i _ ?_ (by omega);unfold q9y;rw[List.getElem?_map,List.getElem?_range (by omega)];rfl
  show rdN (zc n w++r) i*256+bt (zc n w++r) i=_;rw[v,q];have m:8*(w-i)=8*(w-1-i)+8:=by omega
  have p:w-(i+1)=w-1-i:=by omega
  rw[m,p,Int.pow_add,←Int.ediv_ediv_of_nonneg (Int.le_of_lt (Int.pow_pos (by decide)))];show ((n:Int) / 2 ^ (8*(w-1-i))) / 256*256+((n:Int) / 2 ^ (8*(w-1-i)))%256=_;omega
theorem qlz{n:Int}{w:Nat}(r:ByteArray)(f:0≤n)(m:n<2 ^ (8*w)):rdN (zc n.toNat w++r) w=n:=by
 have i:n.toNat<2 ^ (8*w):=by
  have:((n.toNat:Nat):Int)<((2 ^ (8*w):Nat):Int):=by
   rw[Int.toNat_of_nonneg f];exact_mod_cast m
  exact_mod_cast this
 rw[qzl _ _ r i w (Nat.le_refl _),Nat.sub_self];show ((n.toNat:Nat):Int) / 1=n;omega
theorem zcp{h:List Int}(q:h.length=32)(m:qbg h)(r:ByteArray):rdH (strOfNums h++r)=h:=by
 unfold rdH;apply List.ext_getElem?;intro i;by_cases p:i<32
 ·obtain⟨x,f⟩:∃x,h[i]? = some x:=⟨_,List.getElem?_eq_getElem (by omega)⟩;rw[List.getElem?_map,List.getElem?_range p,Option.map_some,f,qrz h r i x f (m x (List.mem_of_getElem? f))]
 ·rw[List.getElem?_eq_none (by simp;omega),List.getElem?_eq_none (by omega)]
def Fld.set(x:Fld)(m k:MsgV):MsgV :=
 match x with
 | .ch=> {k with ch:=m.ch}
 | .id=> {k with id:=m.id}
 | .amount=> {k with amount:=m.amount}
 | .hash=> {k with hash:=m.hash}
 | .expiry=> {k with expiry:=m.expiry}
 | .number=> {k with number:=m.number}
theorem qzk{m:MsgV}(h:PutOk m)(x:Fld):(x.put m).size=x.wid:=by
 cases x
 case hash=>show (strOfNums m.hash).size=32;rw[strOfNums_size,h.ok.len]
 all_goals exact qak _ _
theorem q9l{m:MsgV}(h:PutOk m)(x:Fld)(r:ByteArray)(k:MsgV):x.get (x.put m++r) k=x.set m k:=by
 cases x
 case ch=>show ({k with ch:=rdN (zc m.ch.toNat 4++r) 4} : MsgV)=_;rw[qlz r h.ok.ch.1 h.ok.ch.2];rfl
 case id=>show ({k with id:=rdN (zc m.id.toNat 8++r) 8} : MsgV)=_;rw[qlz r h.ok.id.1 h.ok.id.2];rfl
 case amount=>show ({k with amount:=rdN (zc m.amount.toNat 8++r) 8} : MsgV)=_;rw[qlz r h.ok.amount.1 h.ok.amount.2];rfl
 case hash=>show ({k with hash:=rdH (strOfNums m.hash++r)} : MsgV)=_;rw[zcp h.ok.len h.ok.hash];rfl
 case expiry=>show ({k with expiry:=rdN (zc m.expiry.toNat 4++r) 4} : MsgV)=_;rw[qlz r h.expiry.1 h.expiry.2];rfl
 case number=>show ({k with number:=rdN (zc m.number.toNat 2++r) 2} : MsgV)=_;rw[qlz r h.number.1 h.number.2];rfl
def q7v(xs:List Fld)(m k:MsgV):MsgV:=xs.foldl (fun k x=>x.set m k) k
def qkn:List Fld→MsgV→ByteArray
 | [],_=>⟨#[]⟩
 | x::xs,m=>x.put m++qkn xs m
theorem qu8(m:MsgV):∀(xs:List Fld) (s:ByteArray),qeq xs m s=s++qkn xs m
 | [],s=>bx (by rw[qn5];simp[qeq,qkn])
 | x::xs,s=>by
  show qeq xs m (s++x.put m)=s++(x.put m++qkn xs m);rw[qu8 m xs,qkl]
theorem qt8{m:MsgV}(h:PutOk m):∀(xs:List Fld) (r:ByteArray) (k:MsgV),qdt xs (qkn xs m++r) k=some (q7v xs m k,r)
 | [],r,k=>by
  have e:(⟨#[]⟩:ByteArray)++r=r:=ByteArray.empty_append;show some (k,(⟨#[]⟩:ByteArray)++r)=_;rw[e];rfl
 | x::xs,r,k=>by
  have e:qkn (x::xs) m++r=x.put m++(qkn xs m++r):=qkl _ _ _;rw[e,qdt,if_neg (by rw[ByteArray.size_append,qzk h];omega),q9l h];have f:=qm7 (x.put m) (qkn xs m++r);rw[qzk h] at f;rw[f,qt8 h xs];rfl
theorem q3d{m:MsgV}{xs:List Fld}(p:fieldsOf m.kind=some xs)(f:qaf m=true):q7v xs m (qa9 m.kind)=m:=by
 unfold qaf at f;rw[p] at f;simp only at f;split at f
 ·cases f
 ·have q:qfh xs m=qa9 m.kind:=of_decide_eq_true f;clear f;obtain⟨k,c,i,a,h,e,n⟩:=m;unfold fieldsOf at p
  repeat' (split at p)
  all_goals cases p
  all_goals
   simp only[qfh,List.foldl,Fld.zero,qa9,MsgV.mk.injEq,true_and,and_true] at q;simp only[q7v,List.foldl,Fld.set,qa9,MsgV.mk.injEq,true_and,and_true];simp[q]
theorem q9d{m:MsgV}{xs:List Fld}(h:SayOk m)(i:fieldsOf m.kind=some xs):qco (qik xs m)=(m,0):=by
 have f:qik xs m=zc m.kind.toNat 1++qkn xs m:=qu8 m xs _;have q:bt (qik xs m) 0=m.kind:=by
  have:=qlz (w:=1) (qkn xs m) h.kind.1 h.kind.2;rw[←f] at this;have e:rdN (qik xs m) 1=0*256+bt (qik xs m) 0:=rfl;rw[e] at this;omega
 have v:(qik xs m).extract 1 (qik xs m).size=qkn xs m:=by
  have:=qm7 (zc m.kind.toNat 1) (qkn xs m);rw[qak] at this;rw[f];exact this
 have z:(qik xs m).size≠0:=by rw[f,ByteArray.size_append,qak];omega
 have p:=qt8 h.put xs ⟨#[]⟩ (qa9 m.kind);rw[show qkn xs m++(⟨#[]⟩:ByteArray)=qkn xs m from ByteArray.append_empty,q3d i h.may] at p;refine qy2 (r:=⟨#[]⟩) z (by rw[q];exact i) (by rw[v,q];exact p) rfl h.may
theorem q53(g r:ByteArray)(f:g.size≤1024):hd (qcw g++r)=g.size:=by
 unfold qcw hd;rw[qkl,qrz _ _ 0 ((g.size:Int) / 256) rfl (by omega),qrz _ _ 1 ((g.size:Int)%256) rfl (by omega)];omega
theorem q5v(g r:ByteArray)(i:0<g.size)(f:g.size≤1024):qid (qcw g++r):=by
 have m:=q53 g r f;have p:(qcw g++r).size=2+g.size+r.size:=by rw[ByteArray.size_append,qd5]
 exact⟨by omega,qp5 (by omega) (by omega),by omega⟩
theorem zb4(g r:ByteArray)(f:g.size≤1024):frT (qcw g++r)=g:=by
 have i:=q53 g r f;have e:(2+hd (qcw g++r)).toNat=(qcw g).size:=by rw[i,qd5];omega
 unfold frT;rw[e,q4o];unfold qcw;have:=qm7 (strOfNums [(g.size:Int) / 256,(g.size:Int)%256]) g;rw[strOfNums_size] at this;exact this
theorem zb3(g r:ByteArray)(f:g.size≤1024):frR (qcw g++r)=r:=by
 have i:=q53 g r f;have e:(2+hd (qcw g++r)).toNat=(qcw g).size:=by rw[i,qd5];omega
 unfold frR;rw[e,qm7]
theorem SayOk.dec{m:MsgV}(h:SayOk m)(r:ByteArray):∃t,t.size≤1000∧qco t=(m,0)∧qid (qdw m++r)∧frT (qdw m++r)=t∧frR (qdw m++r)=r:=by
 obtain⟨xs,p,z,q,f⟩:=h.say;have C:=qjy p;have v:=qjp m h.put.ok.len xs (zc m.kind.toNat 1);rw[qak] at v;have i:(qik xs m).size≤1000:=by
  show (qeq xs m (zc m.kind.toNat 1)).size≤_;omega
 rw[z];exact⟨qik xs m,i,q9d h p,q5v _ r q f,zb4 _ r f,zb3 _ r f⟩
structure LkC(l:Lk)(c:Ch)(t:Int)(wt:Bool)(o r:ByteArray)(n:Nat):Prop where
 c:l.c=c
 ticks:l.ticks=t
 waits:l.waits=wt
 out:l.out=o
 rest:l.rest=r
 dead:l.dead=false
 broken:l.broken=false
 fused:l.j.fused=false
 off:l.j.off=false
 many:0≤l.j.many∧l.j.many≤n
 len:l.j.bs.size≤2000*n
 outn:o.size≤2000*n
section
variable {l:Lk}{c c':Ch}{t:Int}{wt:Bool}{o r:ByteArray}{n m:Nat}
theorem LkC.ok(h:LkC l c t wt o r n)(f:n≤100000000):LkOkW l:=⟨h.dead,h.fused,h.off,⟨h.many.1,by have:=h.many.2;omega⟩,by have:=h.len;omega,by have:=h.outn;rw[h.out];omega⟩
theorem LkC.mono(h:LkC l c t wt o r n)(f:n≤m):LkC l c t wt o r m:=⟨h.c,h.ticks,h.waits,h.out,h.rest,h.dead,h.broken,h.fused,h.off,⟨h.many.1,by have:=h.many.2;omega⟩,by have:=h.len;omega,by have:=h.outn;omega⟩
theorem LkC.outs(h:LkC l c t wt o r n):LkC {l with out:=⟨#[]⟩} c t wt ⟨#[]⟩ r n:=⟨h.c,h.ticks,h.waits,rfl,h.rest,h.dead,h.broken,h.fused,h.off,h.many,h.len,Nat.zero_le _⟩
theorem LkC.comes(h:LkC l c t wt o r n)(s:ByteArray):LkC {l with rest:=l.rest++s} c t wt o (r++s) n:=⟨h.c,h.ticks,h.waits,h.out,by show l.rest++s=_;rw[h.rest],h.dead,h.broken,h.fused,h.off,h.many,h.len,h.outn⟩
theorem LkC.new(c:Ch):LkC (.new c) c 0 false ⟨#[]⟩ ⟨#[]⟩ 0:=⟨rfl,rfl,rfl,rfl,rfl,rfl,rfl,rfl,rfl,⟨Int.le_refl _,Int.le_refl _⟩,Nat.le_refl _,Nat.le_refl _⟩
theorem LkC.acts(h:LkC l c t wt o r n){rec:ByteArray}{m:MsgV}{er:Int}(C:rec.size≤1024)(i:er=0→SayOk m):LkC (l.acts c' rec m er) c' t wt (if er=0 then o++qdw m else o) r (n+1):=by
 unfold Lk.acts;by_cases f:er=0
 ·rw[if_pos f,if_pos f];have F:=(i f).size;have z:=qjo l.j.many.toNat rec;have p:=h.len;have q:=h.outn;have v:=h.many;refine⟨rfl,h.ticks,h.waits,?_,h.rest,h.dead,h.broken,h.fused,h.off,⟨?_,?_⟩,?_,?_⟩
  ·show l.out++qdw m=_;rw[h.out]
  ·show 0≤l.j.many+1;omega
  ·show l.j.many+1≤((n+1:Nat):Int);omega
  ·show (l.j.bs++qpx l.j.many.toNat rec).size≤_;rw[ByteArray.size_append];omega
  ·rw[ByteArray.size_append];omega
 ·rw[if_neg f,if_neg f];have:=h.mono (Nat.le_succ n);exact⟨rfl,this.ticks,this.waits,this.out,this.rest,this.dead,this.broken,this.fused,this.off,this.many,this.len,this.outn⟩
end
structure HearC(c:Ch)(m:MsgV)(c':Ch)(ms:List MsgV):Prop where
 say:SayOk m
 kind:3≤m.kind∧m.kind≤9
 eq:c.hears m=(c',ms,0)
 inv:c.Inv
 last:c.last.length≤900000
 says:∀m∈ms,SayOk m
 few:ms.length≤1000
 xs:c'.xs.length≤1000
def qre(m:MsgV)(wt:Bool):Bool:=if m.kind=9 then false else wt
section
variable {l L:Lk}{c c':Ch}{t:Int}{wt:Bool}{o r:ByteArray}{n:Nat}{m:MsgV}{ms:List MsgV}{es ES:List EvV}{E:Int}
theorem q4m(h:LkC l c t wt o (qdw m++r) n)(f:HearC c m c' ms)(V:n+ms.length≤1000000)(M:es.length≤10000) :
  ∃z,LkC z c' t (qre m wt) (zz ms o) r (n+1+ms.length)∧∀L ES E,Bts z (es++qdg m wt c.xs c'.xs) L ES E→Bts l es L ES E:=by
 obtain⟨i,N,hd,C,q,F⟩:=f.say.dec r
 have p:(qco i).1=m:=by rw[hd]
 have v:(qco i).2=0:=by rw[hd]
 rw[←h.rest] at C q F
 have I:({l with rest:=frR l.rest} : Lk).hears es i=(Lk.heard {l with rest:=r,c:=c',j:=l.j.app (zk [zc 6 1,i]),out:=zz ms l.out} m,es++qdg m wt c.xs c'.xs,0):=by
  unfold Lk.hears;rw[if_pos v,p];show Lk.hearD _ es m i (l.c.hears m)=_;rw[h.c,f.eq];show (Lk.hearR _ c' ms m i 0,qlp es m l.waits c.xs c'.xs 0,(0:Int))=_;rw[h.waits];unfold Lk.hearR qlp;rw[if_pos rfl,if_pos rfl,F]
 have J:LkC (Lk.heard {l with rest:=r,c:=c',j:=l.j.app (zk [zc 6 1,i]),out:=zz ms l.out} m) c' t (qre m wt) (zz ms o) r (n+1+ms.length):=by
  have H:(zk [zc 6 1,i]).size≤1024:=by
   have P:(⟨#[]⟩:ByteArray).size=0:=rfl;unfold zk zk zk;simp only[ByteArray.size_append,qak];omega
  have W:=qjo l.j.many.toNat (zk [zc 6 1,i]);have R:=h.len;have T:=h.many;have S:=h.outn;have U:=qhg ⟨#[]⟩ ms f.says o;refine⟨rfl,h.ticks,?_,?_,rfl,h.dead,h.broken,h.fused,h.off,⟨?_,?_⟩,?_,by omega⟩
  ·show (if m.kind=9 then false else l.waits)=_;rw[h.waits];rfl
  ·show zz ms l.out=_;rw[h.out]
  ·show 0≤l.j.many+1;omega
  ·show l.j.many+1≤((n+1+ms.length:Nat):Int);omega
  ·show (l.j.bs++qpx l.j.many.toNat (zk [zc 6 1,i])).size≤_;rw[ByteArray.size_append];omega
 have K:LHearOk {l with rest:=frR l.rest} es (frT l.rest):=by
  rw[q];have ok:=h.ok (show n≤100000000 by omega);refine⟨⟨ok.dead,ok.fused,ok.off,ok.many,ok.len,ok.out⟩,M,N,fun _=> ?_⟩;rw[p];show (3≤m.kind∧m.kind≤9)∧l.c.Inv∧l.c.last.length≤900000∧(∀O∈(l.c.hears m).2.1,SayOk O)∧(l.c.hears m).2.1.length≤1000∧l.c.xs.length≤1000∧(l.c.hears m).1.xs.length≤1000;rw[h.c,f.eq];exact⟨f.kind,f.inv,f.last,f.says,f.few,by have:=f.inv.few;omega,f.xs⟩
 refine⟨_,J,fun L ES E next=> .step l es C K (by rw[q,I]) L ES E ?_⟩
 rw[q,I]
 exact next
theorem q83(h:LkC l c t wt o ⟨#[]⟩ n):Bts l es l es 0:=by
 have i:¬qid l.rest:=by rw[h.rest];exact fun e=>absurd e.1 (by decide)
 have f:qeo l.rest=false:=by rw[h.rest];rfl
 have:=Bts.stop l es i;rw[f] at this;exact this
end
attribute [local go_sem ↓ high] zl qaa qad qam
attribute [local go_sem] qbf qci qcj qv
theorem qtj(x:Int)(w:World):(qyx #[(0,.int .u8 x)]).run Tryz.prog w = .ok (.agg (qs (x::List.replicate 31 0)).toArray) w:=run_build w _ _ _ (by kernel_rfl)
def qfd(x:Int):List Int:=x::List.replicate 31 0
def qde(ours cap:Int):SetupV:=⟨9,cap,ours,qfd 3,⟨#[107]⟩,⟨#[108]⟩⟩
def qb9(ours cap:Int):SetupV:=⟨9,cap,IntKind.u64.wrap (cap-ours),qfd 4,⟨#[108]⟩,⟨#[107]⟩⟩
theorem q7o{ours cap:Int}(f:0≤ours∧ours<18446744073709551616)(i:0≤cap∧cap<18446744073709551616):(qde ours cap).Ok:=⟨by show (0:Int)≤9∧(9:Int)<4294967296;decide,i,f,rfl⟩
theorem q7p{ours cap:Int}(f:0≤cap∧cap<18446744073709551616):(qb9 ours cap).Ok:=⟨by show (0:Int)≤9∧(9:Int)<4294967296;decide,f,qs6 _,rfl⟩
def qwa(p:Array (Nat × Value)):Sem Value:=Instr.build 78 p
theorem qrv(p:Array (Nat × Value)):Instr.build 78 p=qwa p:=rfl
theorem q4e(ours cap:Int)(w:World):(qwa #[(0,.int .u32 9),(1,.int .u64 cap),(2,.int .u64 ours),(3,.agg (qs (qfd 3)).toArray),(4,.string ⟨#[107]⟩),(5,.string ⟨#[108]⟩)]).run Tryz.prog w = .ok (.agg (qde ours cap).cells.toArray) w:=run_build w _ _ _ (by kernel_rfl)
theorem q4f(o cap:Int)(w:World):(qwa #[(0,.int .u32 9),(1,.int .u64 cap),(2,.int .u64 o),(3,.agg (qs (qfd 4)).toArray),(4,.string ⟨#[108]⟩),(5,.string ⟨#[107]⟩)]).run Tryz.prog w = .ok (.agg (SetupV.cells ⟨9,cap,o,qfd 4,⟨#[108]⟩,⟨#[107]⟩⟩).toArray) w:=run_build w _ _ _ (by kernel_rfl)
def q4c(p:Array (Nat × Value)):Sem Value:=Instr.build 97 p
theorem qrw(p:Array (Nat × Value)):Instr.build 97 p=q4c p:=rfl
def qf8(a b:SetupV):List Value:=a.cells++b.cells
theorem Tryz.infoSt2T:(Tryz.prog.info? 97).map (·.size)=some 74:=by kernel_rfl
def q72(x v:Value):Sem Unit:=Instr.storeAt 97 x v
theorem qfo(x v:Value):Instr.storeAt 97 x v=q72 x v:=rfl
theorem qnr(b o:Nat)(A:Array Value)(w:World):(q72 (.pointer (some ⟨b,o,none⟩)) (.agg A)).run Tryz.prog w=if stOk w b o 74 A=true then .ok () (w.setCells b o A.toList) else qd3 Tryz.prog 97 w b o A :=
 qap 97 74 Tryz.infoSt2T b o A w
def qj2:List Value:=ql3++ql3
def q3y:Sem Value:=Instr.alloc 97 true (.tuple #[])
theorem qfj:Instr.alloc 97 true (.tuple #[])=q3y:=rfl
theorem qm6(w:World):q3y.run Tryz.prog w = .ok (.pointer (some ⟨w.heap.size,0,none⟩)) (w.alloc (.cells qj2.toArray 97)):=by kernel_rfl
theorem q8y(m f p i:Int)(w:World):(q4c #[(0,.agg (qde m f).cells.toArray),(1,.agg (SetupV.cells ⟨9,i,p,qfd 4,⟨#[108]⟩,⟨#[107]⟩⟩).toArray)]).run Tryz.prog w = .ok (.agg (qf8 (qde m f) ⟨9,i,p,qfd 4,⟨#[108]⟩,⟨#[107]⟩⟩).toArray) w:=run_build w _ _ _ (by kernel_rfl)
theorem SetupV.oneT(s:SetupV):∀v∈s.cells,v.oneCell'=true:=by
 intro v f;simp only[SetupV.cells,List.mem_cons,List.mem_append,List.mem_map,List.not_mem_nil,or_false] at f;rcases f with rfl | rfl | rfl | ⟨n,_,rfl⟩ | rfl | rfl<;>rfl
structure St2T(w:World)(b:Nat)(s t:SetupV):Prop where
 at_:w.heap[b]? = some (.cells (qf8 s t).toArray 97 (0,0))
 l1:s.seed.length=32
 l2:t.seed.length=32
theorem qia{s t:SetupV}(f:s.seed.length=32)(i:t.seed.length=32):(qf8 s t).length=74:=by unfold qf8;rw[List.length_append,s.len f,t.len i]
theorem St2T.upd{S:Nat→Prop}{w w':World}{b:Nat}{s t:SetupV}(a:St2T w b s t)(u:Upd S w w')(n:¬S b):St2T w' b s t:=⟨u.old a.at_ n,a.l1,a.l2⟩
theorem St2T.row0{w:World}{b:Nat}{s t:SetupV}(a:St2T w b s t):zj w b 0 37=some s.cells.toArray:=by
 rw[qbx a.at_ 0 37 (by rw[List.size_toArray,qia a.l1 a.l2];omega)];congr 1;apply Array.ext';rw[Array.toList_extract];show List.extract (s.cells++t.cells) 0 37=s.cells;rw[List.extract_eq_take_drop,List.drop_zero,List.take_append_of_le_length (by rw[s.len a.l1];exact Nat.le_refl _),List.take_of_length_le (by rw[s.len a.l1];exact Nat.le_refl _)]
theorem St2T.row1{w:World}{b:Nat}{s t:SetupV}(a:St2T w b s t):zj w b 37 37=some t.cells.toArray:=by
 rw[qbx a.at_ 37 37 (by rw[List.size_toArray,qia a.l1 a.l2];omega)];congr 1;apply Array.ext';rw[Array.toList_extract];show List.extract (s.cells++t.cells) 37 74=t.cells;rw[List.extract_eq_take_drop,qoa (s.len a.l1),List.take_of_length_le (by rw[t.len a.l2];exact Nat.le_refl _)]
theorem qpc{w:World}{b:Nat}(h:w.heap[b]? = some (.cells qj2.toArray 97 (0,0))){s t:SetupV}(f:s.seed.length=32)(i:t.seed.length=32) :
  stOk w b 0 74 (qf8 s t).toArray=true∧St2T (w.setCells b 0 (qf8 s t)) b s t:=by
 have m:=qia f i
 refine⟨qej (C:=qj2.toArray) h (by rw[m];rfl) (fun v p=>(List.mem_append.1 p).elim (s.oneT v) (t.oneT v)),⟨?_,f,i⟩⟩
 rw[qa3 h 0 _]
 exact congrArg (fun z=>some (Obj.cells z 97 (0,0))) (qcv qj2.toArray (qf8 s t) (by rw[m];rfl))
attribute [local go_sem ↓ high] qrv qrw qfo qfj
attribute [local go_sem] q8y qnr qm6 q4e q4f
theorem qvl(ours cap:Int)(w:World):Calls Tryz.prog 42 #[.int .u64 ours,.int .u64 cap] w (qa1 (.agg (qf8 (qde ours cap) (qb9 ours cap)).toArray) w):=by
 go_enter Tryz.func42,Tryz.ntmps42;go_upto_region 1 with fail;have q:=qh w (.cells qj2.toArray 97);have z:qu w (w.alloc (.cells qj2.toArray 97)):=(Upd.refl _ _).alloc _;generalize w.alloc (.cells qj2.toArray 97)=w1 at q z ⊢;obtain⟨B,p⟩:∃B,B=w.heap.size:=⟨_,rfl⟩;rw[←p] at q ⊢;have L:w.heap.size≤B:=by omega
 clear p;obtain⟨v,m⟩:=qpc q (s:=qde ours cap) (t:=qb9 ours cap) rfl rfl;have f:qb9 ours cap=⟨9,cap,IntKind.u64.wrap (cap-ours),qfd 4,⟨#[108]⟩,⟨#[107]⟩⟩:=rfl;have J:=fun W=>qtj 3 W
 have K:=fun W=>qtj 4 W
 have F:(3:Int)::List.replicate 31 0=qfd 3:=rfl;have H:(4:Int)::List.replicate 31 0=qfd 4:=rfl;rw[F] at J;rw[H] at K;have C:=qb m;have E:=qb (z.then (qx (w:=w1) (b:=B) (qf8 (qde ours cap) (qb9 ours cap))) (fun i M e=>by omega));clear m q z F H;rw[f] at v C E;have I:=qb f;clear f;go_wp2_with fail;have m:=qa C;rw[qa I];exact bodyPost_ret (results_cell_row rfl _ _ B _ _ _ _ rfl m.at_ Tryz.underlying97 rfl (by rw[List.size_toArray,qia m.l1 m.l2];exact Tryz.infoSt2T)) rfl ⟨rfl,qa E⟩
end
section
open Go.RowKit
theorem q3a{ours cap:Int}(h:1≤cap∧cap≤1125899906842624∧ours≤cap):(qde ours cap).may:=⟨h.1,h.2.1,h.2.2,by show 1≤64;decide,by show 1≤64;decide⟩
theorem q3b{ours cap:Int}(f:0≤ours)(h:1≤cap∧cap≤1125899906842624∧ours≤cap):(qb9 ours cap).may:=by
 refine⟨h.1,h.2.1,?_,by show 1≤64;decide,by show 1≤64;decide⟩;show IntKind.u64.wrap (cap-ours)≤cap;rw[qel (by omega) (by omega)];omega
def qzj(x y:Value):List Value:=[x,y,.string ⟨#[]⟩,.string ⟨#[]⟩,.bool false]
attribute [local go_sem ↓ high] qfo qfj qb2
attribute [local go_sem] qv qnr qm6 qee
end
section
open Go.RowKit
def qbk{α:Type}(f:Nat→α)(k:Nat)(x:α):Nat→α:=fun i=>if i=k then x else f i
theorem qbs{α:Type}(f:Nat→α)(k:Nat)(x:α):qbk f k x k=x:=if_pos rfl
theorem qc0{α:Type}(f:Nat→α){k i:Nat}(x:α)(h:i≠k):qbk f k x i=f i:=if_neg h
structure Pw where
 l:Nat→Lk
 es:Nat→List EvV
 way:Nat→ByteArray
 bad:Bool
def qst(g:Nat→Nat)(P:Pw):List Value:=[.pointer (some ⟨g 0,0,none⟩),.pointer (some ⟨g 1,0,none⟩),.string (P.way 0),.string (P.way 1),.bool P.bad]
structure PwS(K:Nat→Obj→Prop)(w0 w:World)(p:Nat)(g:Nat→Nat)(S:Nat→Nat→Prop)(P:Pw):Prop where
 at_:w.heap[p]? = some (.cells (qst g P).toArray 32 (0,0))
 lk:∀k,k<2→LkV w (g k) (S k) (P.l k) (P.es k)
 sep:∀i,S 0 i→¬S 1 i
 ge:∀k,k<2→∀i,S k i→w0.heap.size≤i
 pge:w0.heap.size≤p
 pS:∀k,k<2→¬S k p
 new:qu w0 w
 keep:∀B o,K B o→w.heap[B]? = some o∧B≠p∧∀k,k<2→¬S k B
def PwD(K:Nat→Obj→Prop)(w0 w:World)(p:Nat)(P:Pw):Prop:=∃g S,PwS K w0 w p g S P
theorem q8z{w:World}{B:Nat}{o:Obj}(h:w.heap[B]? = some o):B<w.heap.size:=by
 by_cases e:B<w.heap.size
 ·exact e
 ·rw[Array.getElem?_eq_none (by omega)] at h;cases h
section
variable {K:Nat→Obj→Prop}{w0 w w':World}{p:Nat}{g:Nat→Nat}{S:Nat→Nat→Prop}{P:Pw}{k:Nat}
theorem PwS.cl(h:PwS K w0 w p g S P)(f:k<2):w.cell? ⟨p,k,none⟩=some (.pointer (some ⟨g k,0,none⟩)):=by
 rcases (by omega:k=0∨k=1) with rfl | rfl
 ·exact qg h.at_ 0
 ·exact qg h.at_ 1
theorem PwS.cw(h:PwS K w0 w p g S P)(f:k<2):w.cell? ⟨p,2+k,none⟩=some (.string (P.way k))∧w.frozen? ⟨p,2+k,none⟩=false:=by
 rcases (by omega:k=0∨k=1) with rfl | rfl
 ·exact⟨qg h.at_ 2,qo h.at_ 2⟩
 ·exact⟨qg h.at_ 3,qo h.at_ 3⟩
theorem PwS.cb(h:PwS K w0 w p g S P):w.cell? ⟨p,4,none⟩=some (.bool P.bad)∧w.frozen? ⟨p,4,none⟩=false:=⟨qg h.at_ 4,qo h.at_ 4⟩
theorem PwS.lkp(h:PwS K w0 w p g S P)(f:k<2):∀i,S k i→i<w.heap.size:=(h.lk k f).lt
theorem PwS.nw(h:PwS K w0 w p g S P)(n:qu w w'):PwS K w0 w' p g S P :=
 ⟨n.old h.at_ (fun h=>h),fun k f=>(h.lk k f).new n,h.sep,h.ge,h.pge,h.pS,h.new.trans n,fun B o e=>⟨n.old (h.keep B o e).1 (fun h=>h),(h.keep B o e).2⟩⟩
theorem PwS.apart(h:PwS K w0 w p g S P)(z:k<2){j:Nat}(v:j<2)(q:j≠k):∀i,S j i→¬S k i:=by
 rcases (by omega:k=0∨k=1) with rfl | rfl
 ·obtain rfl:j=1:=by omega
  exact fun i m f=>h.sep i f m
 ·obtain rfl:j=0:=by omega
  exact fun i f m=>h.sep i f m
theorem PwS.op(h:PwS K w0 w p g S P)(m:k<2)(u:Upd (S k) w w'){L:Lk}{z:List EvV}(J:LkV w' (g k) (Fr (S k) w w') L z) :
  PwS K w0 w' p g (qbk S k (Fr (S k) w w')) {P with l:=qbk P.l k L,es:=qbk P.es k z} := by
 have R:=h.new.size
 have v:∀j,j<2→∀i,S j i→i<w.heap.size:=fun j f=>(h.lk j f).lt
 have M:=zr h.at_
 have q:∀j i,qbk S k (Fr (S k) w w') j i→(j≠k∧S j i)∨(j=k∧Fr (S k) w w' i):=by
  intro j i e;by_cases f:j=k
  ·subst f;rw[qbs] at e;exact .inr ⟨rfl,e⟩
  ·rw[qc0 _ _ f] at e;exact .inl ⟨f,e⟩
 refine⟨u.old h.at_ (h.pS k m),?_,?_,?_,h.pge,?_,h.new.then u (fun i O e=>by have:=h.ge k m i e;omega),fun B o e=>⟨u.old (h.keep B o e).1 ((h.keep B o e).2.2 k m),(h.keep B o e).2.1,fun j f H=>by
  have N:=q8z (h.keep B o e).1;rcases q j B H with ⟨-,a⟩ | ⟨-,a⟩
  ·exact(h.keep B o e).2.2 j f a
  ·exact a.elim ((h.keep B o e).2.2 k m) (fun a=>by omega)⟩⟩
 ·intro j f;by_cases e:j=k
  ·subst e;show LkV w' (g j) (qbk S j _ j) (qbk P.l j L j) (qbk P.es j z j);rw[qbs,qbs,qbs];exact J
  ·show LkV w' (g j) (qbk S k _ j) (qbk P.l k L j) (qbk P.es k z j);rw[qc0 _ _ e,qc0 _ _ e,qc0 _ _ e];exact(h.lk j f).upd u (h.apart m f e)
 ·intro i I E;rcases q 0 i I with ⟨F,a⟩ | ⟨F,a⟩
  ·rcases q 1 i E with ⟨C,b⟩ | ⟨C,b⟩
   ·exact h.sep i a b
   ·subst C;exact b.elim (fun b=>h.sep i a b) (fun b=>by have:=v 0 (by decide) i a;omega)
  ·subst F;rcases q 1 i E with ⟨C,b⟩ | ⟨C,b⟩
   ·exact a.elim (fun a=>h.sep i a b) (fun a=>by have:=v 1 (by decide) i b;omega)
   ·omega
 ·intro j f i e;rcases q j i e with ⟨-,a⟩ | ⟨-,a⟩
  ·exact h.ge j f i a
  ·exact a.elim (h.ge k m i) (fun a=>by omega)
 ·intro j f e;rcases q j p e with ⟨-,a⟩ | ⟨-,a⟩
  ·exact h.pS j f a
  ·exact a.elim (h.pS k m) (fun a=>by omega)
theorem PwS.put(h:PwS K w0 w p g S P){i:Nat}{v:Value}{f:Pw}(C:(qst g P).toArray.setIfInBounds i v=(qst g f).toArray)(E:f.l=P.l)(F:f.es=P.es):PwS K w0 (w.setCell ⟨p,i,none⟩ v) p g S f:=by
 have u:Upd (· = p) w (w.setCell ⟨p,i,none⟩ v):=(Upd.refl _ _).set1 _ _;refine⟨?_,fun k q=> ?_,h.sep,h.ge,h.pge,h.pS,h.new.then u (fun j m e=>by have e:j=p:=e;have:=h.pge;omega),fun B o e=>⟨u.old (h.keep B o e).1 (fun z=>(h.keep B o e).2.1 z),(h.keep B o e).2⟩⟩
 ·have:=zt h.at_ i v;rw[C] at this;exact this
 ·rw[E,F];exact(h.lk k q).upd u (fun j m e=>by have e:j=p:=e;rw[e] at m;exact h.pS k q m)
theorem PwS.putWay(h:PwS K w0 w p g S P)(f:k<2)(s:ByteArray):PwS K w0 (w.setCell ⟨p,2+k,none⟩ (.string s)) p g S {P with way:=qbk P.way k s} := by
 rcases (by omega:k=0∨k=1) with rfl | rfl
 ·exact h.put rfl rfl rfl
 ·exact h.put rfl rfl rfl
theorem PwS.putBad(h:PwS K w0 w p g S P)(b:Bool):PwS K w0 (w.setCell ⟨p,4,none⟩ (.bool b)) p g S {P with bad:=b} := h.put rfl rfl rfl
theorem PwS.tb(h:PwS K w0 w p g S P)(f:Tb w0):Tb w:=f.new h.new
theorem PwS.ap(h:PwS K w0 w p g S P)(i:Tb w0)(f:k<2):Apart (S k):=by
 obtain⟨a,b,c,d,e⟩:=i.lt;exact⟨fun x=>by have:=h.ge k f _ x;omega,fun x=>by have:=h.ge k f _ x;omega,fun x=>by have:=h.ge k f _ x;omega,fun x=>by have:=h.ge k f _ x;omega,fun x=>by have:=h.ge k f _ x;omega⟩
end
def Pw.flow1(P:Pw)(k:Nat):Pw:= {P with l:=qbk P.l k {P.l k with out:=⟨#[]⟩},es:=qbk P.es k (P.es k),way:=qbk P.way (1-k) (P.way (1-k)++(P.l k).out)}
def Pw.flow(P:Pw):Pw:=(P.flow1 0).flow1 1
theorem qgz(K:Nat→Obj→Prop)(w0 w:World)(p:Nat)(P:Pw)(h:PwD K w0 w p P)(hd:∀k,k<2→(P.l k).dead=false)(Y:∀k,k<2→(P.way k).size≤1000000000∧(P.l k).out.size≤1000000000) :
  Calls Tryz.prog 14 #[.pointer (some ⟨p,0,none⟩)] w fun e w'=>e = .returned (.tuple #[])∧PwD K w0 w' p P.flow:=by
 have U:=qb h
 have z:=qb (And.intro hd Y)
 clear h hd Y
 go_enter Tryz.func14,Tryz.ntmps14
 go_wp2_with fail
 go_loopw [2] (fun T wr=>∃i:Nat,T = .int .i64 (i:Int)∧i≤2∧Hid (PwD K w0 wr p (if i=0 then P else if i=1 then P.flow1 0 else P.flow))) (fun T _=>2-(intOf T).toNat)
 case atStart=>exact⟨0,rfl,by omega,U⟩
 case round =>
  obtain⟨i,rfl,hi,hrel⟩:=hrel;obtain⟨f,rfl⟩:∃f:World,f=wr:=⟨_,rfl⟩;clear U;rcases (by omega:i=0∨i=1∨i=2) with rfl | rfl | rfl
  ·obtain⟨g,S,h⟩:PwD K w0 f p P:=qa hrel;have cl:=h.cl (k:=0) (by decide);have F:=(h.cw (k:=1) (by decide)).1;have L:=zc2 (g 0) (S 0) (P.l 0) (P.es 0) f.drew (h.lk 0 (by decide) |>.new (Upd.drew (Upd.refl _ _))) ((qa z).1 0 (by decide));have I:f.drew.cell? ⟨p,0,none⟩=some (.pointer (some ⟨g 0,0,none⟩))∧f.drew.cell? ⟨p,3,none⟩=some (.string (P.way 1)):=⟨cl,F⟩;have R:(P.way 1).size+(P.l 0).out.size≤9223372036854775807:=by have:=(qa z).2 1 (by decide);have:=(qa z).2 0 (by decide);omega
   have N:=qb h;clear h cl F hrel;go_upto_region 3 with fail;refine qaw (fun w'=>w'.cell? ⟨p,0,none⟩=some (.pointer (some ⟨g 0,0,none⟩))∧w'.cell? ⟨p,3,none⟩=some (.string (P.way 1))) [9,15] (.of [0,1,2,3,4,5,6,7,8,9,10,11,12,13,14,15,16,17,18,19,20,21]) (by kernel_rfl) (by kernel_rfl) I ?_;simp only[Plan.of];go_wp2_with ((with_reducible first|rfl|refine' ut ?_ ?_;rotate_left|refine' uu ?_)<;>intros);refine L.mono ?_;rintro e w1 ⟨rfl,J,u⟩;have m:=((qa N).nw (Upd.drew (Upd.refl _ _))).op (by decide) u J;have O:w1.cell? ⟨p,0,none⟩=some (.pointer (some ⟨g 0,0,none⟩)):=m.cl (k:=0) (by decide);obtain⟨q,H⟩:=m.cw (k:=1) (by decide);have q:w1.cell? ⟨p,3,none⟩=some (.string (P.way 1)):=q;have H:w1.frozen? ⟨p,3,none⟩=false:=H;have E:PwS K w0 (w1.setCell ⟨p,3,none⟩ (.string (P.way 1++(P.l 0).out))) p g (qbk S 0 (Fr (S 0) f.drew w1)) (P.flow1 0):=m.putWay (k:=1) (by decide) _;have M:=qb E;have v:=And.intro O q;clear L m E J u I;go_wp2_with (first | ((with_reducible first|rfl|refine' ut ?_ ?_;rotate_left|refine' uu ?_)<;>intros) | refine⟨v,?_⟩ | refine⟨trivial,?_⟩);go_roundw
   case rel=>exact⟨1,rfl,by omega,qb ⟨g,_,qa M⟩⟩
   case measure=>decide
  ·obtain⟨g,S,h⟩:PwD K w0 f p (P.flow1 0):=qa hrel;have cl:=h.cl (k:=1) (by decide);have F:=(h.cw (k:=0) (by decide)).1;have W:(P.flow1 0).l 1=P.l 1:=rfl;have V:(P.flow1 0).way 0=P.way 0:=rfl;have L:=zc2 (g 1) (S 1) ((P.flow1 0).l 1) ((P.flow1 0).es 1) f.drew (h.lk 1 (by decide) |>.new (Upd.drew (Upd.refl _ _))) ((qa z).1 1 (by decide));have R:((P.flow1 0).way 0).size+((P.flow1 0).l 1).out.size≤9223372036854775807:=by rw[W,V];have:=(qa z).2 1 (by decide);have:=(qa z).2 0 (by decide);omega
   clear V W;have X:(P.flow1 0).flow1 1=P.flow:=rfl;have Z:=qb X;clear X;generalize P.flow1 0=C at *
   have I:f.drew.cell? ⟨p,1,none⟩=some (.pointer (some ⟨g 1,0,none⟩))∧f.drew.cell? ⟨p,2,none⟩=some (.string (C.way 0)):=⟨cl,F⟩;have N:=qb h;clear h cl F hrel;go_upto_region 3 with fail;refine qaw (fun w'=>w'.cell? ⟨p,1,none⟩=some (.pointer (some ⟨g 1,0,none⟩))∧w'.cell? ⟨p,2,none⟩=some (.string (C.way 0))) [9,15] (.of [0,1,2,3,4,5,6,7,8,9,10,11,12,13,14,15,16,17,18,19,20,21]) (by kernel_rfl) (by kernel_rfl) I ?_;simp only[Plan.of];go_wp2_with ((with_reducible first|rfl|refine' ut ?_ ?_;rotate_left|refine' uu ?_)<;>intros);refine L.mono ?_;rintro e w1 ⟨rfl,J,u⟩;have m:=((qa N).nw (Upd.drew (Upd.refl _ _))).op (by decide) u J;have O:w1.cell? ⟨p,1,none⟩=some (.pointer (some ⟨g 1,0,none⟩)):=m.cl (k:=1) (by decide);obtain⟨q,H⟩:=m.cw (k:=0) (by decide);have q:w1.cell? ⟨p,2,none⟩=some (.string (C.way 0)):=q;have H:w1.frozen? ⟨p,2,none⟩=false:=H;have E:PwS K w0 (w1.setCell ⟨p,2,none⟩ (.string (C.way 0++(C.l 1).out))) p g (qbk S 1 (Fr (S 1) f.drew w1)) (C.flow1 1):=m.putWay (k:=0) (by decide) _;rw[qa Z] at E;have M:=qb E;have v:=And.intro O q;clear L m E J u I;go_wp2_with (first | ((with_reducible first|rfl|refine' ut ?_ ?_;rotate_left|refine' uu ?_)<;>intros) | refine⟨v,?_⟩ | refine⟨trivial,?_⟩);go_roundw
   case rel=>exact⟨2,rfl,by omega,qb ⟨g,_,qa M⟩⟩
   case measure=>decide
  ·go_wp2_with fail;go_end0;exact⟨rfl,qa hrel⟩
def Pw.came(P:Pw)(k:Nat)(r:ByteArray)(L:Lk)(f:List EvV)(E:Int):Pw:= {P with way:=qbk P.way k r,l:=qbk P.l k L,es:=qbk P.es k f,bad:=P.bad || E != 0}
structure ComeOk(P:Pw)(k n:Nat)(L:Lk)(ES:List EvV)(E:Int):Prop where
 dead:∀j,j<2→(P.l j).dead=false
 broken:(P.l k).broken=false
 nbad:qeo (P.l k).rest=false
 rest:(P.l k).rest.size≤1000000
 ways:∀j,j<2→(P.way j).size≤100000000
 outs:∀j,j<2→(P.l j).out.size≤100000000
 le:n≤(P.way k).size
 bts:Bts {P.l k with rest:=(P.l k).rest++(P.way k).extract 0 n} (P.es k) L ES E
 dead':L.dead=false
 out':L.out.size≤100000000
theorem qkp(K:Nat→Obj→Prop)(w0 w:World)(p:Nat)(P:Pw)(k n:Nat)(many:Int)(L:Lk)(z:List EvV)(E:Int)(h:PwD K w0 w p P)(J:k<2)(hm:min many ((P.way k).size:Int)=(n:Int))(hT:Tb w0)(q:ComeOk P k n L z E) :
  Calls Tryz.prog 51 #[.pointer (some ⟨p,0,none⟩),.int .i64 (k:Int),.int .i64 many] w fun e w'=>e = .returned (.tuple #[])∧PwD K w0 w' p (P.came k ((P.way k).extract n (P.way k).size) L z E).flow:=by
 obtain⟨g,S,h⟩:=h
 have hz:=q.ways k J
 have b3:=q.le
 have b4:(n:Int)≤((P.way k).size:Int):=by omega
 have b5:(k:Int)<2:=by omega
 have U:=h.cw J
 have Y:=qb (show ∀(w':World) (Q:Pw),PwS K w0 w' p g S Q→Q.l=P.l→Q.es=P.es→Calls Tryz.prog 24 #[.pointer (some ⟨g k,0,none⟩),.string ((P.way k).extract 0 n)] w' fun e O=>e = .returned (.int .i64 E)∧LkV O (g k) (Fr (S k) w' O) L z∧Upd (S k) w' O from fun w' Q hQ e1 e2 =>
  zc0 (g k) (S k) (P.l k) L (P.es k) z E ((P.way k).extract 0 n) w' (by have:=hQ.lk k J;rw[e1,e2] at this;exact this) (q.dead k J) q.broken q.nbad (by have:=q.rest;rw[ByteArray.size_extract];omega) (hQ.tb hT) (hQ.ap hT J) q.bts)
 have C:=qb (fun w' (F:PwD K w0 w' p (P.came k ((P.way k).extract n (P.way k).size) L z E))=>qgz K w0 w' p _ F (fun j hj=>by
   show (qbk P.l k L j).dead=false;by_cases e:j=k
   ·rw[e,qbs];exact q.dead'
   ·rw[qc0 _ _ e];exact q.dead j hj) (fun j hj=>by
   refine⟨?_,?_⟩
   ·show (qbk P.way k _ j).size≤_;by_cases e:j=k
    ·rw[e,qbs,ByteArray.size_extract];omega
    ·rw[qc0 _ _ e];have:=q.ways j hj;omega
   ·show (qbk P.l k L j).out.size≤_;by_cases e:j=k
    ·rw[e,qbs];have:=q.out';omega
    ·rw[qc0 _ _ e];have:=q.outs j hj;omega))
 have HH:=qb h
 clear h q
 obtain⟨s,hs⟩:∃s,s=P.way k:=⟨_,rfl⟩
 rw[←hs] at U hm hz b3 b4 Y C ⊢
 obtain⟨s1,H⟩:∃s1,s1=s.extract 0 n:=⟨_,rfl⟩
 rw[←H] at Y
 obtain⟨s2,N⟩:∃s2,s2=s.extract n s.size:=⟨_,rfl⟩
 rw[←N] at C ⊢
 have T:=qb (And.intro hs N)
 clear hs N
 obtain⟨U,f2⟩:=U
 go_enter Tryz.func51,Tryz.ntmps51
 go_upto_region 2 with fail
 try rw[←H]
 have hC:w.drew.cell? ⟨p,2+k,none⟩=some (.string s):=U
 have a6:=qb H
 have R:=qb (qa T).2
 clear hm
 refine qaw (fun w'=>w'.cell? ⟨p,2+k,none⟩=some (.string s)) [7] (.of [0,1,2,3,4,5,6,7,8,9,10,11,12,13]) (by kernel_rfl) (by kernel_rfl) hC ?_
 simp only[Plan.of]
 go_upto_region 3 with (first | ((with_reducible first|rfl|refine' ut ?_ ?_;rotate_left|refine' uu ?_)<;>intros) | refine⟨trivial,?_⟩)
 rw[←qa R]
 have W:=((qa HH).putWay J s2).nw (Upd.drew (Upd.refl _ _))
 generalize (w.setCell ⟨p,2+k,none⟩ (.string s2)).drew=w2 at W ⊢
 have hb:=qa Y w2 _ W rfl rfl
 have ck:=W.cl J
 have H1:=qb W
 clear W Y HH U f2 hC T H a6 R
 go_wp2_with fail
 refine hb.mono ?_
 rintro e w3 ⟨rfl,hl,u⟩
 have Z:=(qa H1).op J u hl
 obtain⟨V,f4⟩:=Z.cb
 have h4:=Z.putBad (P.bad || E != 0)
 have I:=qb h4
 have H3:=qb Z
 have a7:({({P with way:=qbk P.way k s2} : Pw) with l:=qbk P.l k L,es:=qbk P.es k z} : Pw).bad=P.bad:=rfl
 have c4:w3.cell? ⟨p,4,none⟩=some (.bool P.bad):=V
 clear V
 have f:=fun w' (F:PwD K w0 w' p (P.came k s2 L z E))=>qa C w' F
 have i:=qb f
 clear hb hl u Z h4 a7 f C ck
 generalize X:P.bad=pb at c4 I
 have m:=qb X
 clear X
 by_cases hE:E=0
 ·subst hE;cases pb with
  | true =>
   have F:PwD K w0 (w3.setCell ⟨p,4,none⟩ (.bool true)) p (P.came k s2 L z 0):=⟨g,_,by
    have:=qa I;unfold Pw.came;rw[qa m];exact this⟩
   have f:=qa i _ F;clear H3 I m i;go_wp2_with ((with_reducible first|rfl|refine' ut ?_ ?_;rotate_left|refine' uu ?_)<;>intros);refine f.mono ?_;rintro e w5 ⟨rfl,v⟩;have M:=qb v;clear f v;go_wp2_with fail;go_end0;exact⟨rfl,qa M⟩
  | false =>
   have F:PwD K w0 (w3.setCell ⟨p,4,none⟩ (.bool false)) p (P.came k s2 L z 0):=⟨g,_,by
    have:=qa I;unfold Pw.came;rw[qa m];exact this⟩
   have f:=qa i _ F;clear H3 I m i;go_wp2_with ((with_reducible first|rfl|refine' ut ?_ ?_;rotate_left|refine' uu ?_)<;>intros);refine f.mono ?_;rintro e w5 ⟨rfl,v⟩;have M:=qb v;clear f v;go_wp2_with fail;go_end0;exact⟨rfl,qa M⟩
 ·have a8:(E != 0)=true:=by simpa using hE
  have HQ:Hid ((pb || E != 0)=true):=qb (by rw[a8,Bool.or_true]);rw[qa HQ] at I;have F:PwD K w0 (w3.setCell ⟨p,4,none⟩ (.bool true)) p (P.came k s2 L z E):=⟨g,_,by
   have:=qa I;unfold Pw.came;rw[qa m,qa HQ];exact this⟩
  have f:=qa i _ F;clear H3 I m i HQ hE;cases pb with
  | true =>
   go_wp2_with ((with_reducible first|rfl|refine' ut ?_ ?_;rotate_left|refine' uu ?_)<;>intros);refine f.mono ?_;rintro e w5 ⟨rfl,v⟩;have M:=qb v;clear f v;go_wp2_with fail;go_end0;exact⟨rfl,qa M⟩
  | false =>
   go_wp2_with ((with_reducible first|rfl|refine' ut ?_ ?_;rotate_left|refine' uu ?_)<;>intros);refine f.mono ?_;rintro e w5 ⟨rfl,v⟩;have M:=qb v;clear f v;go_wp2_with fail;go_end0;exact⟨rfl,qa M⟩
end
end Go.Proofs.YtfmkdoachjgjbaaGreatDoor
