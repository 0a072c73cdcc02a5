/-
  Law 18: bytes come.
-/
import Derived.Test.YtfmkdoachjgjbaaGreatDoorMdh
set_option maxRecDepth 100000
set_option maxHeartbeats 4000000
set_option linter.unusedVariables false
set_option linter.unusedSimpArgs false
namespace Go.Proofs.YtfmkdoachjgjbaaGreatDoor
open Go.RowKit
def Pw.came(P:Pw)(k:Nat)(r:ByteArray)(L:Lk)(f:List EvV)(E:Int):Pw:= {P with way:=qbn P.way k r,l:=qbn P.l k L,es:=qbn P.es k f,bad:=P.bad || E != 0}
structure ComeOk(P:Pw)(k n:Nat)(L:Lk)(ES:List EvV)(E:Int):Prop where
 dead:∀j,j<2→(P.l j).dead=false
 broken:(P.l k).broken=false
 nbad:qeq (P.l k).rest=false
 rest:(P.l k).rest.size≤1000000
 ways:∀j,j<2→(P.way j).size≤100000000
 outs:∀j,j<2→(P.l j).out.size≤100000000
 le:n≤(P.way k).size
 bts:Bts {P.l k with rest:=(P.l k).rest++(P.way k).extract 0 n} (P.es k) L ES E
 dead':L.dead=false
 out':L.out.size≤100000000
theorem qtq(K:Nat→Obj→Prop)(w0 w:World)(p:Nat)(P:Pw)(k n:Nat)(many:Int)(L:Lk)(v:List EvV)(E:Int)(h:PwD K w0 w p P)(I:k<2)(hm:min many ((P.way k).size:Int)=(n:Int))(hT:Tb w0)(q:ComeOk P k n L v E) :
  Calls Tryz.prog 51 #[.pointer (some ⟨p,0,none⟩),.int .i64 (k:Int),.int .i64 many] w fun e w'=>e = .returned (.tuple #[])∧PwD K w0 w' p (P.came k ((P.way k).extract n (P.way k).size) L v E).flow:=by
 obtain⟨g,S,h⟩:=h
 have hz:=q.ways k I
 have b3:=q.le
 have b4:(n:Int)≤((P.way k).size:Int):=by omega
 have b5:(k:Int)<2:=by omega
 have T:=h.cw I
 have X:=qb (show ∀(w':World) (Q:Pw),PwS K w0 w' p g S Q→Q.l=P.l→Q.es=P.es→Calls Tryz.prog 24 #[.pointer (some ⟨g k,0,none⟩),.string ((P.way k).extract 0 n)] w' fun e N=>e = .returned (.int .i64 E)∧LkV N (g k) (Fr (S k) w' N) L v∧Upd (S k) w' N from fun w' Q hQ e1 e2 =>
  zcj (g k) (S k) (P.l k) L (P.es k) v E ((P.way k).extract 0 n) w' (by have:=hQ.lk k I;rw[e1,e2] at this;exact this) (q.dead k I) q.broken q.nbad (by have:=q.rest;rw[ByteArray.size_extract];omega) (hQ.tb hT) (hQ.ap hT I) q.bts)
 have z:=qb (fun w' (C:PwD K w0 w' p (P.came k ((P.way k).extract n (P.way k).size) L v E))=>qg2 K w0 w' p _ C (fun j Z=>by
   show (qbn P.l k L j).dead=false;by_cases e:j=k
   ·rw[e,qbx];exact q.dead'
   ·rw[qc5 _ _ e];exact q.dead j Z) (fun j Z=>by
   refine⟨?_,?_⟩
   ·show (qbn P.way k _ j).size≤_;by_cases e:j=k
    ·rw[e,qbx,ByteArray.size_extract];omega
    ·rw[qc5 _ _ e];have:=q.ways j Z;omega
   ·show (qbn P.l k L j).out.size≤_;by_cases e:j=k
    ·rw[e,qbx];have:=q.out';omega
    ·rw[qc5 _ _ e];have:=q.outs j Z;omega))
 have HH:=qb h
 clear h q
 obtain⟨s,hs⟩:∃s,s=P.way k:=⟨_,rfl⟩
 rw[←hs] at T hm hz b3 b4 X z ⊢
 obtain⟨s1,F⟩:∃s1,s1=s.extract 0 n:=⟨_,rfl⟩
 rw[←F] at X
 obtain⟨s2,M⟩:∃s2,s2=s.extract n s.size:=⟨_,rfl⟩
 rw[←M] at z ⊢
 have R:=qb (And.intro hs M)
 clear hs M
 obtain⟨T,f2⟩:=T
 go_enter Tryz.func51,Tryz.ntmps51
 go_upto_region 2 with fail
 try rw[←F]
 have hC:w.drew.cell? ⟨p,2+k,none⟩=some (.string s):=T
 have a6:=qb F
 have O:=qb (qa R).2
 clear hm
 refine qa1 (fun w'=>w'.cell? ⟨p,2+k,none⟩=some (.string s)) [7] (.of [0,1,2,3,4,5,6,7,8,9,10,11,12,13]) (by kernel_rfl) (by kernel_rfl) hC ?_
 simp only[Plan.of]
 go_upto_region 3 with (first | (with_reducible first|(first|refine' zv (qh ?_) ?_|refine' zx (qh ?_) ?_|refine' zy (qh ?_) ?_);rotate_left|refine' zz (qh ?_)|refine' qw5 (qh ?_)|rfl|apply qn) | refine⟨trivial,?_⟩)
 rw[←qa O]
 have V:=((qa HH).putWay I s2).nw (Upd.drew (Upd.refl _ _))
 generalize (w.setCell ⟨p,2+k,none⟩ (.string s2)).drew=w2 at V ⊢
 have hb:=qa X w2 _ V rfl rfl
 have ck:=V.cl I
 have H1:=qb V
 clear V X HH T f2 hC R F a6 O
 go_wp2_with fail
 refine hb.mono ?_
 rintro e w3 ⟨rfl,hl,u⟩
 have Y:=(qa H1).op I u hl
 obtain⟨U,f4⟩:=Y.cb
 have h4:=Y.putBad (P.bad || E != 0)
 have H:=qb h4
 have H3:=qb Y
 have a7:({({P with way:=qbn P.way k s2} : Pw) with l:=qbn P.l k L,es:=qbn P.es k v} : Pw).bad=P.bad:=rfl
 have c4:w3.cell? ⟨p,4,none⟩=some (.bool P.bad):=U
 clear U
 have f:=fun w' (C:PwD K w0 w' p (P.came k s2 L v E))=>qa z w' C
 have i:=qb f
 clear hb hl u Y h4 a7 f z ck
 generalize W:P.bad=pb at c4 H
 have m:=qb W
 clear W
 by_cases hE:E=0
 ·subst hE;cases pb with
  | true =>
   have C:PwD K w0 (w3.setCell ⟨p,4,none⟩ (.bool true)) p (P.came k s2 L v 0):=⟨g,_,by
    have:=qa H;unfold Pw.came;rw[qa m];exact this⟩
   have f:=qa i _ C;clear H3 H m i;go_wp2_with (with_reducible first|(first|refine' tw1 (qh ?_) ?_|refine' tw2 (qh ?_) ?_);rotate_left|refine' tw3 (qh ?_)|rfl|apply tn|refine' tw4 ?_);refine f.mono ?_;rintro e w5 ⟨rfl,r⟩;have J:=qb r;clear f r;go_wp2_with fail;go_end0;exact⟨rfl,qa J⟩
  | false =>
   have C:PwD K w0 (w3.setCell ⟨p,4,none⟩ (.bool false)) p (P.came k s2 L v 0):=⟨g,_,by
    have:=qa H;unfold Pw.came;rw[qa m];exact this⟩
   have f:=qa i _ C;clear H3 H m i;go_wp2_with (with_reducible first|(first|refine' tw1 (qh ?_) ?_|refine' tw2 (qh ?_) ?_);rotate_left|refine' tw3 (qh ?_)|rfl|apply tn|refine' tw4 ?_);refine f.mono ?_;rintro e w5 ⟨rfl,r⟩;have J:=qb r;clear f r;go_wp2_with fail;go_end0;exact⟨rfl,qa J⟩
 ·have a8:(E != 0)=true:=by simpa using hE
  have HQ:Hid ((pb || E != 0)=true):=qb (by rw[a8,Bool.or_true]);rw[qa HQ] at H;have C:PwD K w0 (w3.setCell ⟨p,4,none⟩ (.bool true)) p (P.came k s2 L v E):=⟨g,_,by
   have:=qa H;unfold Pw.came;rw[qa m,qa HQ];exact this⟩
  have f:=qa i _ C;clear H3 H m i HQ hE;cases pb with
  | true =>
   go_wp2_with (with_reducible first|(first|refine' tw1 (qh ?_) ?_|refine' tw2 (qh ?_) ?_);rotate_left|refine' tw3 (qh ?_)|rfl|apply tn|refine' tw4 ?_);refine f.mono ?_;rintro e w5 ⟨rfl,r⟩;have J:=qb r;clear f r;go_wp2_with fail;go_end0;exact⟨rfl,qa J⟩
  | false =>
   go_wp2_with (with_reducible first|(first|refine' tw1 (qh ?_) ?_|refine' tw2 (qh ?_) ?_);rotate_left|refine' tw3 (qh ?_)|rfl|apply tn|refine' tw4 ?_);refine f.mono ?_;rintro e w5 ⟨rfl,r⟩;have J:=qb r;clear f r;go_wp2_with fail;go_end0;exact⟨rfl,qa J⟩
end Go.Proofs.YtfmkdoachjgjbaaGreatDoor
