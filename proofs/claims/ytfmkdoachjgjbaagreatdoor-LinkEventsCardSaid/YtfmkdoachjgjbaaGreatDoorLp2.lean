/-
  Law 18: bytes come.
-/
import Derived.Test.YtfmkdoachjgjbaaGreatDoorMdh
set_option linter.unusedVariables false
set_option linter.unusedSimpArgs false
namespace Go.Proofs.YtfmkdoachjgjbaaGreatDoor
open Go.RowKit
def Pw.came(P:Pw)(k:Nat)(r:ByteArray)(L:Lk)(f:List EvV)(E:Int):Pw:= {P with way:=qbk P.way k r,l:=qbk P.l k L,es:=qbk P.es k f,bad:=P.bad || E != 0}
structure ComeOk(P:Pw)(k n:Nat)(L:Lk)(ES:List EvV)(E:Int):Prop where
 dead:∀j,j<2→(P.l j).dead=false
 broken:(P.l k).broken=false
 nbad:qei (P.l k).rest=false
 rest:(P.l k).rest.size≤1000000
 ways:∀j,j<2→(P.way j).size≤100000000
 outs:∀j,j<2→(P.l j).out.size≤100000000
 le:n≤(P.way k).size
 bts:Bts {P.l k with rest:=(P.l k).rest++(P.way k).extract 0 n} (P.es k) L ES E
 dead':L.dead=false
 out':L.out.size≤100000000
set_option maxRecDepth 100000 in
set_option maxHeartbeats 4000000 in
theorem qti(K:Nat→Obj→Prop)(w0 w:World)(p:Nat)(P:Pw)(k n:Nat)(many:Int)(L:Lk)(z:List EvV)(E:Int)(h:PwD K w0 w p P)(J:k<2)(hm:min many ((P.way k).size:Int)=(n:Int))(hT:Tb w0)(q:ComeOk P k n L z E) :
  Calls Tryz.prog 51 #[.pointer (some ⟨p,0,none⟩),.int .i64 (k:Int),.int .i64 many] w fun e w'=>e = .returned (.tuple #[])∧PwD K w0 w' p (P.came k ((P.way k).extract n (P.way k).size) L z E).flow:=by
 obtain⟨g,S,h⟩:=h
 have hz:=q.ways k J
 have b3:=q.le
 have b4:(n:Int)≤((P.way k).size:Int):=by omega
 have b5:(k:Int)<2:=by omega
 have U:=h.cw J
 have Y:=qb (show ∀(w':World) (Q:Pw),PwS K w0 w' p g S Q→Q.l=P.l→Q.es=P.es→Calls Tryz.prog 24 #[.pointer (some ⟨g k,0,none⟩),.string ((P.way k).extract 0 n)] w' fun e O=>e = .returned (.int .i64 E)∧LkV O (g k) (Fr (S k) w' O) L z∧Upd (S k) w' O from fun w' Q hQ e1 e2 =>
  zb9 (g k) (S k) (P.l k) L (P.es k) z E ((P.way k).extract 0 n) w' (by have:=hQ.lk k J;rw[e1,e2] at this;exact this) (q.dead k J) q.broken q.nbad (by have:=q.rest;rw[ByteArray.size_extract];omega) (hQ.tb hT) (hQ.ap hT J) q.bts)
 have C:=qb (fun w' (F:PwD K w0 w' p (P.came k ((P.way k).extract n (P.way k).size) L z E))=>qgs K w0 w' p _ F (fun j hj=>by
   show (qbk P.l k L j).dead=false;by_cases e:j=k
   ·rw[e,qbv];exact q.dead'
   ·rw[qc1 _ _ e];exact q.dead j hj) (fun j hj=>by
   refine⟨?_,?_⟩
   ·show (qbk P.way k _ j).size≤_;by_cases e:j=k
    ·rw[e,qbv,ByteArray.size_extract];omega
    ·rw[qc1 _ _ e];have:=q.ways j hj;omega
   ·show (qbk P.l k L j).out.size≤_;by_cases e:j=k
    ·rw[e,qbv];have:=q.out';omega
    ·rw[qc1 _ _ e];have:=q.outs j hj;omega))
 have HH:=qb h
 clear h q
 obtain⟨s,hs⟩:∃s,s=P.way k:=⟨_,rfl⟩
 rw[←hs] at U hm hz b3 b4 Y C ⊢
 obtain⟨s1,H⟩:∃s1,s1=s.extract 0 n:=⟨_,rfl⟩
 rw[←H] at Y
 obtain⟨s2,N⟩:∃s2,s2=s.extract n s.size:=⟨_,rfl⟩
 rw[←N] at C ⊢
 have T:=qb (And.intro hs N)
 clear hs N
 obtain⟨U,f2⟩:=U
 go_enter Tryz.func51,Tryz.ntmps51
 go_upto_region 2 with fail
 try rw[←H]
 have hC:w.drew.cell? ⟨p,2+k,none⟩=some (.string s):=U
 have a6:=qb H
 have R:=qb (qa T).2
 clear hm
 refine qa2 (fun w'=>w'.cell? ⟨p,2+k,none⟩=some (.string s)) [7] (.of [0,1,2,3,4,5,6,7,8,9,10,11,12,13]) (by kernel_rfl) (by kernel_rfl) hC ?_
 simp only[Plan.of]
 go_upto_region 3 with (first | (with_reducible first|(first|refine' zy (qh ?_) ?_|refine' zz (qh ?_) ?_|refine' qw3 (qh ?_) ?_);rotate_left|refine' qw4 (qh ?_)|refine' qw5 (qh ?_)|rfl|apply qn) | refine⟨trivial,?_⟩)
 rw[←qa R]
 have W:=((qa HH).putWay J s2).nw (Upd.drew (Upd.refl _ _))
 generalize (w.setCell ⟨p,2+k,none⟩ (.string s2)).drew=w2 at W ⊢
 have hb:=qa Y w2 _ W rfl rfl
 have ck:=W.cl J
 have H1:=qb W
 clear W Y HH U f2 hC T H a6 R
 go_wp2_with fail
 refine hb.mono ?_
 rintro e w3 ⟨rfl,hl,u⟩
 have Z:=(qa H1).op J u hl
 obtain⟨V,f4⟩:=Z.cb
 have h4:=Z.putBad (P.bad || E != 0)
 have I:=qb h4
 have H3:=qb Z
 have a7:({({P with way:=qbk P.way k s2} : Pw) with l:=qbk P.l k L,es:=qbk P.es k z} : Pw).bad=P.bad:=rfl
 have c4:w3.cell? ⟨p,4,none⟩=some (.bool P.bad):=V
 clear V
 have f:=fun w' (F:PwD K w0 w' p (P.came k s2 L z E))=>qa C w' F
 have i:=qb f
 clear hb hl u Z h4 a7 f C ck
 generalize X:P.bad=pb at c4 I
 have m:=qb X
 clear X
 by_cases hE:E=0
 ·subst hE;cases pb with
  | true =>
   have F:PwD K w0 (w3.setCell ⟨p,4,none⟩ (.bool true)) p (P.came k s2 L z 0):=⟨g,_,by
    have:=qa I;unfold Pw.came;rw[qa m];exact this⟩
   have f:=qa i _ F;clear H3 I m i;go_wp2_with (with_reducible first|(first|refine' tw1 (qh ?_) ?_|refine' tw2 (qh ?_) ?_);rotate_left|refine' tw3 (qh ?_)|rfl|apply tn|refine' tw4 ?_);refine f.mono ?_;rintro e w5 ⟨rfl,v⟩;have M:=qb v;clear f v;go_wp2_with fail;go_end0;exact⟨rfl,qa M⟩
  | false =>
   have F:PwD K w0 (w3.setCell ⟨p,4,none⟩ (.bool false)) p (P.came k s2 L z 0):=⟨g,_,by
    have:=qa I;unfold Pw.came;rw[qa m];exact this⟩
   have f:=qa i _ F;clear H3 I m i;go_wp2_with (with_reducible first|(first|refine' tw1 (qh ?_) ?_|refine' tw2 (qh ?_) ?_);rotate_left|refine' tw3 (qh ?_)|rfl|apply tn|refine' tw4 ?_);refine f.mono ?_;rintro e w5 ⟨rfl,v⟩;have M:=qb v;clear f v;go_wp2_with fail;go_end0;exact⟨rfl,qa M⟩
 ·have a8:(E != 0)=true:=by simpa using hE
  have HQ:Hid ((pb || E != 0)=true):=qb (by rw[a8,Bool.or_true]);rw[qa HQ] at I;have F:PwD K w0 (w3.setCell ⟨p,4,none⟩ (.bool true)) p (P.came k s2 L z E):=⟨g,_,by
   have:=qa I;unfold Pw.came;rw[qa m,qa HQ];exact this⟩
  have f:=qa i _ F;clear H3 I m i HQ hE;cases pb with
  | true =>
   go_wp2_with (with_reducible first|(first|refine' tw1 (qh ?_) ?_|refine' tw2 (qh ?_) ?_);rotate_left|refine' tw3 (qh ?_)|rfl|apply tn|refine' tw4 ?_);refine f.mono ?_;rintro e w5 ⟨rfl,v⟩;have M:=qb v;clear f v;go_wp2_with fail;go_end0;exact⟨rfl,qa M⟩
  | false =>
   go_wp2_with (with_reducible first|(first|refine' tw1 (qh ?_) ?_|refine' tw2 (qh ?_) ?_);rotate_left|refine' tw3 (qh ?_)|rfl|apply tn|refine' tw4 ?_);refine f.mono ?_;rintro e w5 ⟨rfl,v⟩;have M:=qb v;clear f v;go_wp2_with fail;go_end0;exact⟨rfl,qa M⟩
end Go.Proofs.YtfmkdoachjgjbaaGreatDoor
