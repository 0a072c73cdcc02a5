/-
  Law 14's live.
-/
import Derived.Test.YthnohmjbbeahmaaGreatDoorLvR
import Derived.Test.YthnohmjbbeahmaaGreatDoorMef
set_option linter.unusedVariables false
set_option linter.unusedSimpArgs false
namespace Go.Proofs.YthnohmjbbeahmaaGreatDoor
open Go.RowKit Go.Sort Go.ChangeShapes Go.WideShapes Go.ChangeAt Go.Deep
attribute [local go_sem ↓ high] qcf qi0
attribute [local go_sem] qgl qru qo9
set_option maxRecDepth 100000 in
set_option maxHeartbeats 4000000 in
theorem qsy(v:Value)(xs:List Live)(hl:xs.length≤1048576)(w:World)(hv:qe6 w v xs) :
  Calls Tryz.prog 25 #[v] w fun e w'=>∃u,e = .returned u∧qq w w'∧qe6 w' u xs:=by
 obtain⟨va,vc,rfl⟩:∃a c,v = .slice a xs.length c:=by
  rcases hv with ⟨_,_,rfl,rfl⟩ | ⟨g,off,cap,rfl,_⟩
  ·exact⟨_,_,rfl⟩
  ·exact⟨_,_,rfl⟩
 obtain⟨i9,z9,hi,hz,J,K,L⟩:=q3r
 go_enter Tryz.func25,Tryz.ntmps25
 go_wp2_with fail
 have T:qq w (w.alloc (.cells #[] 109)):=(Upd.refl _ _).alloc _
 have H:=World.ownsRow_made (base:=w.heap.size) (e:=109) (size:=38) w #[] 0 (Nat.le_refl _) (by decide) rfl
 have Z:=qb hv
 generalize w.alloc (.cells #[] 109)=wa at T H ⊢
 have o:=qb H
 clear H hv
 obtain⟨V,rfl⟩:∃V:World,V=wa:=⟨_,rfl⟩
 go_wp2_with fail
 go_loopw [3,4] (fun U M wr=>∃(n:Nat),M = .int .i64 (n:Int)∧n≤xs.length∧(∃a k c,U = .slice a k c)∧Hid (wr.ownsRow w.heap.size 109 38 U n ((xs.take n).flatMap qk))∧qq w wr) (fun _ M _=>xs.length-(intOf M).toNat)
 case atStart=>exact⟨0,rfl,Nat.zero_le _,⟨_,_,_,rfl⟩,o,T⟩
 case round =>
  obtain⟨n,rfl,hn,⟨sa,sk,sc,rfl⟩,o,D⟩:=hrel;by_cases m:n<xs.length
  ·obtain⟨x,I⟩:∃x,xs[n]? = some x:=⟨_,List.getElem?_eq_getElem m⟩;rcases (qa Z).new D with ⟨_,_,e,F⟩ | ⟨g,off,cap,e,z⟩
   ·rw[F] at m;simp at m
   ·cases e;have y:=z.row I;have a4:(n:Int)<(xs.length:Int):=by omega
    have t:=qa2 x;have N:=qee x;have R:xs.take (n+1)=xs.take n++[x]:=by rw[List.take_add_one,I];rfl
    have Y:=qb R;clear I z R;generalize O:qk x=C at y t N;have W:=qb O;clear O;have a5:=D.size;go_wp2_with (at_builtin;refine wpList_append_own _ rfl (.tmp 12) (.tmp 17) 62 rfl w.heap.size 109 i9 _ 38 80 Tryz.underlying62 hi hz J K L (by decide) _ _ _ rfl ((qa o).alloc _) ⟨wr.heap.size,0,none⟩ 1 1 C rfl (by omega) ?c1 N ?c3 ?c4 ?c5 ?_)
    case c1 =>
     intro j u hj;have q:(⟨wr.heap.size,0,none⟩:Addr).add j=⟨wr.heap.size,j,none⟩:=by unfold Addr.add;split<;>simp_all
     rw[q,qh (qi _ _)];simpa using hj
    case c3=>unfold maxLen;omega
    case c4=>omega
    case c5=>simp;omega
    intro v' w5 i l _;have n5:qq w w5:=(D.alloc _).grown l (fun k h hk=>by have:=(qa o).lt k h;omega);obtain⟨a6,a8,a7,rfl⟩:=qmp i;have E:=qb i;clear i l;go_wp2;go_roundw
    case rel =>
     refine⟨n+1,by go_num,by omega,⟨_,_,_,rfl⟩,qb ?_,n5⟩;rw[qa Y,List.flatMap_append];have:=qa E;rw[←qa W] at this;simpa using this
    case measure=>simp[intOf];omega
  ·obtain rfl:n=xs.length:=by omega
   rw[List.take_length] at o;have P:=(qsj (qa o)).2;have X:=qb P;clear P;go_wp2
   first | go_ret2 | go_ret
   refine⟨_,rfl,D,?_⟩;rcases qa X with ⟨e,F⟩ | ⟨g,cap,e,_,z⟩
   ·rw[e];exact .inl ⟨_,_,rfl,F⟩
   ·rw[e];exact .inr ⟨g,0,cap,rfl,z.toL⟩
end Go.Proofs.YthnohmjbbeahmaaGreatDoor
