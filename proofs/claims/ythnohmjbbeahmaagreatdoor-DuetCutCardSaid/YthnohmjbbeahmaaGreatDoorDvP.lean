/-
  A duet, plain: what the other end offered, and both have, stays through cuts and rests.
-/
import Derived.Test.YthnohmjbbeahmaaGreatDoorMef
set_option linter.unusedVariables false
set_option linter.unusedSimpArgs false
namespace Go.Proofs.YthnohmjbbeahmaaGreatDoor
open Go.RowKit
def qd0(z:Live)(c:Ch):Prop:=z∈c.xs∧z.state=4∧z.own=false
section
variable {z:Live}{c:Ch}{P:Pr}
theorem qd0.goOn(h:qd0 z c)(ev:Int):qd0 z (c.goOn ev):=by
 obtain⟨l,i,m⟩:=h;refine⟨?_,i,m⟩;rw[zfo];have o:aft ev z=z:=by
  unfold aft;rw[i,qvq,←i]
 refine List.mem_filter.2 ⟨?_,by rw[i];decide⟩;have:aft ev z∈qv ev c.xs:=List.mem_map.2 ⟨z,l,rfl⟩;rwa [o] at this
theorem qd0.of{d:Ch}(h:qd0 z c)(e:d.xs=c.xs):qd0 z d:=⟨by rw[e];exact h.1,h.2⟩
theorem qd0.set(h:qd0 z c){d:Ch}{i:Nat}{x y:Live}(C:c.xs[i]? = some x)(q:x.own=true)(e:d.xs=c.xs.set i y):qd0 z d:=by
 obtain⟨t,v,o⟩:=h;refine⟨?_,v,o⟩;rw[e];obtain⟨j,l⟩:=List.getElem?_of_mem t;have m:i≠j:=fun e=>by
  subst e;rw[C] at l;have:=Option.some.inj l;rw[this,o] at q;cases q
 exact List.mem_of_getElem? (i:=j) (by rw[List.getElem?_set_ne m];exact l)
theorem qd0.hears(h:qd0 z c)(m:MsgV):qd0 z (c.hears m).1:=by
 unfold Ch.hears;split
 ·split<;>exact h
 ·unfold Ch.hear;split
  ·exact h
  split
  ·show qd0 z (c.hearAdd m).1;unfold Ch.hearAdd;split
   ·exact⟨List.mem_append_left _ h.1,h.2⟩
   ·exact h
  split
  ·show qd0 z (c.hearFulfill m).1;cases l:qb0 true m.id c.xs with
   | none=>rw[qkd l];exact h
   | some p =>
    obtain⟨i,x⟩:=p;obtain⟨a1,a2,-,-⟩:=qes l;rw[qhb l];split
    ·exact h.set a1 a2 rfl
    ·exact h
  split
  ·show qd0 z (c.hearFail m).1;cases l:qb0 true m.id c.xs with
   | none=>rw[qi2 l];exact h
   | some p =>
    obtain⟨i,x⟩:=p;obtain⟨a1,a2,-,-⟩:=qes l;rw[qi3 l];exact h.set a1 a2 rfl
  split
  ·unfold Ch.hearSign;split
   ·exact(((h.goOn 3).of (d:=(c.goOn 3).heardOne) rfl).goOn 4).of rfl
   ·exact h
  split
  ·show qd0 z (c.hearRevoke m).1;unfold Ch.hearRevoke;split
   ·exact(((h.of (d:=c.shelved m) rfl).goOn 2)).of rfl
   ·exact h
  show qd0 z c.hearShut.1;unfold Ch.hearShut;split<;>exact h.of rfl
theorem qd0.sign(h:qd0 z c):qd0 z c.sign.1:=by
 unfold Ch.sign;split
 ·exact(h.goOn 1).of rfl
 ·exact h
theorem qd0.cut(h:qd0 z c):qd0 z c.cut:=by
 obtain⟨l,i,m⟩:=h;refine⟨?_,i,m⟩;show z∈qd1 c.xs;refine List.mem_map.2 ⟨z,List.mem_filter.2 ⟨l,by rw[i];decide⟩,?_⟩;unfold qae;rw[if_neg (by rw[i];decide)]
theorem qnd(h:qd0 z P.a){k:Nat}(i:k<2):qd0 z ((P.heard k).1).a:=by
 obtain⟨a,b,wa,wb,bad⟩:=P;rcases qbk i with rfl | rfl
 ·cases wa with
  | nil=>exact h
  | cons m ms=>exact qd0.hears (c:=a) h m
 ·cases wb with
  | nil=>exact h
  | cons m ms=>exact h
theorem qll(h:qd0 z P.a){k:Nat}(l:k<2):∀i,qd0 z (P.heardN k i).a
 | 0=>h
 | i+1=>qnd (qll h l i) l
theorem qr6(h:qd0 z P.a){k:Nat}(i:k<2):qd0 z (P.signs k).a:=by
 obtain⟨a,b,wa,wb,bad⟩:=P;rcases qbk i with rfl | rfl
 ·exact qd0.sign (c:=a) h
 ·exact h
theorem zfi(h:qd0 z P.a):qd0 z (P.sk 2).a:=qr6 (qr6 (qnd (qnd h (by decide)) (by decide)) (by decide)) (by decide)
theorem qp5:∀(m:Nat) (P:Pr),qd0 z P.a→qd0 z (Pr.rounds m P).a
 | 0,_,h=>h
 | m+1,P,h=>qp5 m (P.sk 2) (zfi h)
theorem q7w(h:qd0 z P.a):qd0 z P.restD.a:=qp5 _ _ h
theorem zbp(h:qd0 z P.a)(x y:Int):qd0 z (P.cutD x y).a:=qd0.cut (qll (qll h (by decide) _) (by decide) _)
end
section
variable {w0 w w':World}{p:Nat}{S:Nat→Prop}{P:Pr}{g:Nat→Nat}{k:Nat}
theorem zfd(y:Tb w0)(H:DuG w0 w p S P g)(E:k<2):Calls Tryz.prog 21 #[.pointer (some ⟨g k,0,none⟩)] w fun e w'=>∃a c,e = .returned (.slice a (P.en k).xs.length c)∧qq w w'∧qkv w' a (P.en k).xs∧∀b,a=some ⟨b,0,none⟩→(P.en k).xs≠[]→w.heap.size≤b∧b<w'.heap.size:=by
 obtain⟨o,t,-⟩:=H.opE y E;refine(qpi _ o _ w t).mono ?_;rintro e w' ⟨u,rfl,n,h | ⟨b,cap,rfl,D,m⟩⟩
 ·obtain⟨a,c,rfl,q⟩:=h;rw[q];exact⟨a,c,rfl,n,(fun i x l=>by cases l),fun b _ h=>absurd rfl h⟩
 ·refine⟨_,cap,rfl,n,fun i x l=>⟨b,rfl,?_⟩,fun F e _=> ?_⟩
  ·have:=m.row l;rwa [Nat.zero_add] at this
  ·cases e;refine⟨D,?_⟩;obtain⟨C,T,I,v,-⟩:=m.toL;exact qad v
theorem zh0(h:DuG w0 w p S P g)(i:k<2)(l:P.Rest):Calls Tryz.prog 22 #[.pointer (some ⟨p,0,none⟩),.int .i64 (k:Int)] w fun e w'=>(∃a c,e = .returned (.slice a 0 c))∧qq w w':=qpc h.toD (k:Int) k (ql3 i) (l.way i)
theorem qkv.upd{X:Nat→Prop}{a:Option Addr}{xs:List Live}(h:qkv w a xs)(u:Upd X w w')(n:∀b,a=some ⟨b,0,none⟩→xs≠[]→¬X b):qkv w' a xs:=fun i x l=>by
 obtain⟨b,e,m⟩:=h i x l;exact⟨b,e,qa6 m u (n b e (fun e=>by rw[e] at l;cases l))⟩
end
noncomputable def qlk(i:List Live)(x:Live):Bool:=i.any fun y=>q3i y.h x.h&&(y.own==x.own)
theorem qz3{i:List Live}{j:Nat}{y:Live}(x:Live)(l:i[j]? = some y):qlk (i.take (j+1)) x=(qlk (i.take j) x || (q3i y.h x.h&&(y.own==x.own))):=by
 unfold qlk;rw[List.take_add_one,l,List.any_append];simp
theorem q3c{i:List Live}{x:Live}(h:x∈i):qlk i x=true:=by
 refine List.any_eq_true.2 ⟨x,h,?_⟩;have e:q3i x.h x.h=true:=by
  unfold q3i;exact @decide_eq_true _ (Classical.propDecidable _) rfl
 rw[e];simp
end Go.Proofs.YthnohmjbbeahmaaGreatDoor
