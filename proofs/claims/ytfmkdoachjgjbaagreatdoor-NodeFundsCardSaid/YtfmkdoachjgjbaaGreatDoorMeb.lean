/-
  A node with any many peers: Close.
-/
import Derived.Test.YtfmkdoachjgjbaaGreatDoorMea
import Derived.Test.YtfmkdoachjgjbaaGreatDoorMaj
import Derived.Test.YtfmkdoachjgjbaaGreatDoorMcd
import Derived.Test.YtfmkdoachjgjbaaGreatDoorMdb
import Derived.Test.YtfmkdoachjgjbaaGreatDoorSgn
import Derived.Test.YtfmkdoachjgjbaaGreatDoorMdf
import Derived.Test.YtfmkdoachjgjbaaGreatDoorMdh
set_option maxRecDepth 100000
set_option maxHeartbeats 4000000
set_option linter.unusedVariables false
set_option linter.unusedSimpArgs false
namespace Go.Proofs.YtfmkdoachjgjbaaGreatDoor
section
open Go.RowKit
theorem zbi(g:Nat)(S:Nat→Prop)(l:Lk)(es:List EvV)(w:World)(h:LkV w g S l es)(i:LkOk l)(o:l.c.shut.2.2=0→SayOk l.c.shut.2.1)(D:Tabs w)(t:ApD S) :
  Calls Tryz.prog 27 #[.pointer (some ⟨g,0,none⟩)] w fun e w'=>e = .returned (.int .i64 l.c.shut.2.2)∧LkV w' g (Fr S w w') l.shut es∧Upd S w w':=by
 obtain⟨sp,en,lo,x,y,z,ev,h⟩:=h
 refine(qp6 g x {l with ev:=ev} w ⟨sp,en,lo,y,z,h.lk⟩ ⟨i.dead,i.waits,i.fused,i.off,i.many,i.len,i.out⟩ o (qqn _) D ⟨fun e=>t.c (h.in0 _ e),fun e=>t.d (h.in0 _ e)⟩).mono ?_
 rintro e w' ⟨rfl,v,u⟩
 have E:Lk.shut {l with ev:=ev} = {l.shut with ev:=ev} := by
  show Lk.acts _ l.c.shut.1 _ l.c.shut.2.1 l.c.shut.2.2 = {(Lk.acts _ l.c.shut.1 _ l.c.shut.2.1 l.c.shut.2.2:Lk) with ev:=ev};generalize l.c.shut.1=c';generalize l.c.shut.2.1=m;generalize l.c.shut.2.2=C;unfold Lk.acts;by_cases q:C=0
  ·rw[if_pos q,if_pos q];rfl
  ·rw[if_neg q,if_neg q]
 rw[E] at v
 have:=LkV.lift h u v
 exact⟨rfl,this.1,this.2⟩
def NodeV.closesAt(N:NodeV)(i:Nat)(o:Int):NodeV:=if o=0 then {N with shut:=N.shut.set i true} else N
theorem qxd(N:NodeV)(i:Nat)(q:N.shut.length=8)(o:i<8):N.cells.toArray.setIfInBounds (3+i) (.bool true)=({N with shut:=N.shut.set i true} : NodeV).cells.toArray:=by
 unfold NodeV.cells;rw[List.setIfInBounds_toArray,show 3+i=i+1+1+1 by omega,List.set_cons_succ,List.set_cons_succ,List.set_cons_succ,List.set_append_left _ _ (by rw[List.length_map];omega),←List.map_set]
theorem quy(N:NodeV)(i:Nat)(o:N.shut.length=8)(q:i<8):N.cells.toArray.setIfInBounds (11+i) (.bool true)=({N with swept:=N.swept.set i true} : NodeV).cells.toArray:=by
 unfold NodeV.cells;rw[List.setIfInBounds_toArray,show 11+i=(8+i)+1+1+1 by omega,List.set_cons_succ,List.set_cons_succ,List.set_cons_succ,List.set_append_right _ _ (by rw[List.length_map];omega),List.length_map,o,Nat.add_sub_cancel_left,←List.map_set]
section
variable (G:Nat→Prop)(g:Nat)(N:NodeV)(R:RelV)(m:Nat)(ps:List PeL)
theorem qze(w:World)(z:NodM G w g N R m ps)(W:N.shut.length=8)(i:Nat)(p:PeL)(H:ps[i]? = some p)(a1:ps.length≤8)(hk:LkOk p.L)(t:p.L.c.shut.2.2=0→SayOk p.L.c.shut.2.1)(hT:Tabs w)(hA:ApD p.S) :
  Calls Tryz.prog 36 #[.pointer (some ⟨g,0,none⟩),.int .i64 (i:Int)] w fun e w'=>e = .returned (.int .i64 p.L.c.shut.2.2)∧∃S',NodM G w' g (N.closesAt i p.L.c.shut.2.2) R m (ps.set i ⟨p.ch,p.k,S',p.L.shut⟩)∧Upd G w w':=by
 obtain⟨qs,a2,hI,hq⟩:=z.toI
 obtain⟨q,V,hQ⟩:=hq i p H
 have U:i<8:=by have:=(List.getElem?_eq_some_iff.1 H).1;omega
 have c0:w.cell? ⟨g,0,none⟩=some (.pointer (some ⟨N.re,0,none⟩)):=qk z.no 0
 have v:=qg3 N.re R qs w hI.re (by omega) i q V
 rw[hQ.lk] at v
 clear hI hq hQ
 go_enter Tryz.func36,Tryz.ntmps36
 go_wp2_with fail
 refine v.mono ?_
 rintro e w1 ⟨rfl,q1⟩
 have K:qq w w1:=q1.upd _
 have I:=zbi p.k p.S p.L [] w1 ((z.lk i p H).new K) hk t (hT.new K) hA
 have Y:=qj K
 clear v c0 q1 K
 go_wp2_with fail
 refine I.mono ?_
 rintro e M ⟨rfl,hL,y⟩
 have o:=(z.new (qg Y)).link H y hL
 have f3:=qo o.no (3+i)
 obtain⟨b,hb⟩:∃b,N.shut[i]? = some b:=⟨_,List.getElem?_eq_getElem (by omega)⟩
 have d3:M.cell? ⟨g,3+i,none⟩=some (.bool b):=by
  rw[qk o.no (3+i),List.getElem?_toArray];exact qkn N i b hb
 have x:=zq o.no (3+i) (.bool true)
 rw[qxd N i W U] at x
 have C:Upd (· = g) M (M.setCell ⟨g,3+i,none⟩ (.bool true)):=(Upd.refl _ _).set1 _ _
 have E:=o.self C x rfl
 have P:=z.ge.1
 have J:Upd G w M:=((qg Y).mono (fun _ _ h=>h.elim)).trans (y.mono (fun b _ e=>z.geS i p H b e))
 have X:=qj (And.intro E (And.intro o (And.intro J (C.mono (T:=G) (fun i _ e=>by rw[e];exact P)))))
 clear o hL y x C E I t hk J hb
 generalize he:p.L.c.shut.2.2=Z
 have D:=qj he
 clear he
 by_cases O:Z=0
 ·subst O;go_wp2_with fail;go_ret;obtain⟨h1,h2,y,C⟩:=qg X;rw[qg D];exact⟨rfl,_,h1,y.trans C⟩
 ·go_upto_if 18 with fail;refine wp_cond_true (congrArg Value.bool (show (Z != 0)=true by simpa using O)) ?_;go_wp2_with fail;go_ret;obtain⟨h1,h2,y,C⟩:=qg X;rw[qg D];unfold NodeV.closesAt;rw[if_neg O];exact⟨rfl,_,h2,y⟩
theorem qvs(w:World)(q:NodM G w g N R m ps)(o:Int)(x:o<0∨(ps.length:Int)≤o) :
  Calls Tryz.prog 36 #[.pointer (some ⟨g,0,none⟩),.int .i64 o] w fun e w'=>e = .returned (.int .i64 180)∧qq w w':=by
 obtain⟨E,t,v,D⟩:=q.toI
 have C:w.cell? ⟨g,0,none⟩=some (.pointer (some ⟨N.re,0,none⟩)):=qk q.no 0
 have i:=qt4 N.re R E w v.re o (by rw[t];exact x)
 clear v D q x
 go_enter Tryz.func36,Tryz.ntmps36
 go_wp2_with fail
 refine i.mono ?_
 rintro e w1 ⟨rfl,y⟩
 have z:=qj (y.upd (fun _=>False))
 clear i C y
 go_wp2_with fail
 go_ret
 exact⟨rfl,qg z⟩
end
theorem q1g(N:NodeV)(f:Int):N.cells.toArray.setIfInBounds 1 (.int .u64 f)=({N with funds:=f} : NodeV).cells.toArray:=rfl
section
variable {w w':World}{g:Nat}{N N':NodeV}{R:RelV}{ch:Int}{k:Nat}{S:Nat→Prop}{L:Lk}{m:Nat}
theorem NodS.own(h:NodS w g N R ch k S L m)(u:Upd (· = g) w w')(y:NoR w' g N')(t:N'.re=N.re):NodS w' g N' R ch k S L m:=by
 have q:g≠N.re:=zx h.no h.re (by decide);refine⟨y,by rw[t];exact u.old h.re (fun e=>q e.symm),zc h.row u (fun i o e=> ?_),h.lk.upd u (fun i o e=>h.gS (e▸o)),Nat.le_trans h.bsle u.size,h.pay,h.gS,by rw[t];exact h.rS,h.bS,h.mS,Nat.lt_of_lt_of_le h.mlt u.size⟩;obtain⟨v,x⟩:=zv h.row i o;exact zx x h.no (by decide) e
end
attribute [local go_sem] qna qy
end
section
open Go.RowKit
def Ch.closed(c:Ch):Bool:=c.k.shutSaid&&c.k.shutHeard&&c.xs.isEmpty
def qdr(N:NodeV)(i:Nat)(c:Ch):NodeV:=if (c.closed && !(N.swept.getD i true))=true then {N with funds:=IntKind.u64.wrap (N.funds+c.loc),swept:=N.swept.set i true} else N
def qa7(N:NodeV)(ps:List PeL):Nat→NodeV
 | 0=>N
 | i+1=>match ps[i]? with | none=>qa7 N ps i | some p=>qdr (qa7 N ps i) i p.L.c
theorem qsn(N:NodeV)(i:Nat)(c:Ch):(qdr N i c).re=N.re∧(qdr N i c).shut=N.shut∧(qdr N i c).drains=N.drains∧(qdr N i c).swept.length=N.swept.length:=by
 unfold qdr;split
 ·exact⟨rfl,rfl,rfl,List.length_set⟩
 ·exact⟨rfl,rfl,rfl,rfl⟩
theorem qcm(N:NodeV)(ps:List PeL):∀i,(qa7 N ps i).re=N.re∧(qa7 N ps i).shut=N.shut∧(qa7 N ps i).drains=N.drains∧(qa7 N ps i).swept.length=N.swept.length
 | 0=>⟨rfl,rfl,rfl,rfl⟩
 | i+1=>by
  obtain⟨o,q,t,v⟩:=qcm N ps i;rw[qa7];split
  ·exact⟨o,q,t,v⟩
  ·rename_i p _;obtain⟨w,x,y,z⟩:=qsn (qa7 N ps i) i p.L.c;exact⟨w.trans o,x.trans q,y.trans t,z.trans v⟩
attribute [local go_sem] qna qy
section
variable (G:Nat→Prop)(g:Nat)(N:NodeV)(R:RelV)(m:Nat)(ps:List PeL)
theorem zad(w:World)(hN:NodM G w g N R m ps)(c1:ps.length≤8)(hs:N.shut.length=8)(hw:N.swept.length=8) :
  Calls Tryz.prog 33 #[.pointer (some ⟨g,0,none⟩)] w fun e w'=>(∃k:Int,e = .returned (.int .i64 k))∧NodM G w' g (qa7 N ps ps.length) R m ps∧Upd (· = g) w w':=by
 have y:∀W,qq w W→Calls Tryz.prog 79 #[.pointer (some ⟨N.re,0,none⟩)] W (qae (.int .i64 (ps.length:Int)) W):=fun W n=>by
  obtain⟨qs,b4,hI,-⟩:=(hN.new n).toI;have:=qnv N.re R qs W hI.re;rw[b4] at this;exact this
 have c0:w.cell? ⟨g,0,none⟩=some (.pointer (some ⟨N.re,0,none⟩)):=qk hN.no 0
 have b3:=y w (Upd.refl _ _)
 clear y
 have c7:(ps.length:Int)≤8:=by omega
 have HN:=qj hN
 clear hN
 go_enter Tryz.func33,Tryz.ntmps33
 go_wp2_with fail
 refine b3.mono ?_
 rintro e w1 ⟨rfl,q1⟩
 have N1:=qj (q1.upd (fun _=>False))
 clear b3 q1 c0
 go_wp2_with fail
 go_loopw [3,4,5,11] (fun mv _ _ iv wr=>∃(i k:Nat),iv = .int .i64 (i:Int)∧mv = .int .i64 (k:Int)∧i≤ps.length∧k≤i∧Hid (NodM G wr g (qa7 N ps i) R m ps∧Upd (· = g) w wr)) (fun _ _ _ iv _=>ps.length-(intOf iv).toNat)
 case atStart=>exact⟨0,0,rfl,rfl,Nat.zero_le _,Nat.le_refl _,qj ⟨(qg HN).new (qg N1),(qg N1).mono (fun _ _ h=>h.elim)⟩⟩
 case round =>
  obtain⟨E,rfl⟩:∃E:World,E=wr:=⟨_,rfl⟩;obtain⟨i,kk,rfl,rfl,hi,c6,H⟩:=hrel;by_cases b8:i<ps.length
  ·obtain⟨p,hp⟩:∃p,ps[i]? = some p:=⟨_,List.getElem?_eq_getElem b8⟩;have b2:Calls Tryz.prog 35 #[.pointer (some ⟨N.re,0,none⟩),.int .i64 (i:Int)] E (qae (.pointer (some ⟨p.k,0,none⟩)) E):=by
    obtain⟨qs,b4,hI,hq⟩:=(qg H).1.toI;obtain⟨q,b9,hQ⟩:=hq i p hp;have:=qg3 _ R qs E hI.re (by omega) i q b9;rw[hQ.lk,(qcm N ps i).1] at this;exact this
   obtain⟨en,O,T,-,x⟩:=q9e p.k p.S p.L [] E ((qg H).1.lk i p hp);have x:∀W,qq E W→Calls Tryz.prog 19 #[.pointer (some ⟨p.k,0,none⟩)] W fun e w'=>∃en,e = .returned (.pointer (some ⟨en,0,none⟩))∧Q W w'∧(∃O,ChS W en O p.L.c):=fun W nW=>by
    obtain⟨en,O,T,-,x⟩:=q9e p.k p.S p.L [] W (((qg H).1.lk i p hp).new nW);exact x.mono fun e w' h=>⟨en,h.1,h.2,O,T⟩
   clear T;have d0:E.cell? ⟨g,0,none⟩=some (.pointer (some ⟨N.re,0,none⟩)):=by
    have:=qk (qg H).1.no 0;rw[this];show some (qr8 (qa7 N ps i).re)=_;rw[(qcm N ps i).1];rfl
   obtain⟨b,hb⟩:∃b,(qa7 N ps i).swept[i]? = some b:=⟨_,List.getElem?_eq_getElem (by rw[(qcm N ps i).2.2.2];omega)⟩;have b5:(qa7 N ps i).shut.length=8:=by rw[(qcm N ps i).2.1];exact hs
   have b6:qa7 N ps (i+1)=qdr (qa7 N ps i) i p.L.c:=by rw[qa7,hp]
   have c4:(i:Int)<(ps.length:Int):=by omega
   have c5:(i:Int)<8:=by omega
   have b1:i<8:=by omega
   have a2:=qj b6;have HB:=qj hb;have U:(qa7 N ps i).swept.getD i true=b:=by rw[List.getD_eq_getElem?_getD,hb];rfl
   clear b6 hb hp HN N1;generalize hM:qa7 N ps i=M at *
   clear hM;generalize b0:p.L.c.closed=cl;have K:=qj b0;clear b0;go_wp2_with fail;refine b2.mono ?_;rintro e w2 ⟨rfl,q2⟩;have n2:qq E w2:=q2.upd _;have a8:=x w2 n2;have HQ:=qj n2;clear b2 q2 n2 x;go_wp2_with fail;refine a8.mono ?_;rintro e w3 ⟨en,rfl,q3,O,hC⟩;have n3:=(qg HQ).trans (q3.upd (fun _=>False));have P:=hC.new (q3.upd (fun _=>False));have V:=qvt en O p.L.c w3 P;have Z:=qj P;rw[show (p.L.c.k.shutSaid&&p.L.c.k.shutHeard&&p.L.c.xs.isEmpty)=cl from qg K] at V;have HQ:=qj n3;clear a8 q3 n3 hC P d0;go_wp2_with fail;refine V.mono ?_;rintro e J ⟨rfl,q4⟩;have Y:=(qg HQ).trans (q4.upd (fun _=>False));have C:=(qg H).1.new Y;have c2:J.cell? ⟨g,11+i,none⟩=some (.bool b):=by
    rw[qk C.no (11+i),List.getElem?_toArray];exact qg7 M b5 i b (qg HB)
   have d1:J.cell? ⟨g,1,none⟩=some (.int .u64 M.funds):=qk C.no 1;have b7:=qj ((qg Z).new (q4.upd (fun _=>False)));have a6:=qj ((qg H).2.trans (Y.mono (fun _ _ h=>h.elim)));have a1:=qj C;clear V q4 Y C HQ H Z;have z:(cl && !b)=false→Hid (NodM G J g (qa7 N ps (i+1)) R m ps∧Upd (· = g) w J):=fun e=>by
    rw[qg a2];unfold qdr;rw[U,qg K,if_neg (by rw[e];decide)];exact qj ⟨qg a1,qg a6⟩
   have o:=qj z;clear z;cases cl with
   | false =>
    go_wp2_with fail;go_roundw
    case rel=>exact⟨i+1,kk,by go_num,by go_num,by omega,by omega,qg o rfl⟩
    case measure=>simp[intOf];omega
   | true =>
    cases b with
    | true =>
     go_wp2_with fail;go_roundw
     case rel=>exact⟨i+1,kk,by go_num,by go_num,by omega,by omega,qg o rfl⟩
     case measure=>simp[intOf];omega
    | false =>
     go_upto_region 7 with fail;refine qay (fun w'=>w'.cell? ⟨g,1,none⟩=some (.int .u64 M.funds)) [3] (.of [0,1,2,3,4,5,6,7,8,9,10]) (by kernel_rfl) (by kernel_rfl) (show J.drew.cell? _=_ from d1) ?_;simp only[Plan.of];have nd:qq J J.drew:=(Upd.refl _ _).drew;have e1:J.drew.cell? ⟨g,1,none⟩=some (.int .u64 M.funds):=d1;have a7:=qy0 en O p.L.c _ ((qg b7).new nd);have ND:=qj nd;clear nd;go_wp2_with ((with_reducible first|rfl|refine' ut ?_ ?_;rotate_left|refine' uu ?_)<;>intros);refine a7.mono ?_;rintro e D ⟨rfl,n5⟩;have n5:=(qg ND).trans n5;have t:=(qg a1).new n5;have k1:D.cell? ⟨g,1,none⟩=some (.int .u64 M.funds):=qk t.no 1;have g5:=qo t.no 1;have h6:=zq t.no 1 (.int .u64 (IntKind.u64.wrap (M.funds+p.L.c.loc)));rw[q1g] at h6;have u6:Upd (· = g) D (D.setCell ⟨g,1,none⟩ (.int .u64 (IntKind.u64.wrap (M.funds+p.L.c.loc)))):=(Upd.refl _ _).set1 _ _;have v:=t.self u6 h6 rfl;have X:({M with funds:=IntKind.u64.wrap (M.funds+p.L.c.loc)} : NodeV).shut.length=8:=b5;have c8:(D.setCell ⟨g,1,none⟩ (.int .u64 (IntKind.u64.wrap (M.funds+p.L.c.loc)))).cell? ⟨g,11+i,none⟩=some (.bool false):=by
      rw[qk v.no (11+i),List.getElem?_toArray];exact qg7 _ X i false (qg HB)
     have c3:(D.setCell ⟨g,1,none⟩ (.int .u64 (IntKind.u64.wrap (M.funds+p.L.c.loc)))).frozen? ⟨g,11+i,none⟩=false:=qo v.no (11+i);have h7:=zq v.no (11+i) (.bool true);rw[quy _ i X b1] at h7;have u7:Upd (· = g) (D.setCell ⟨g,1,none⟩ (.int .u64 (IntKind.u64.wrap (M.funds+p.L.c.loc)))) ((D.setCell ⟨g,1,none⟩ (.int .u64 (IntKind.u64.wrap (M.funds+p.L.c.loc)))).setCell ⟨g,11+i,none⟩ (.bool true)):=(Upd.refl _ _).set1 _ _;have I:qa7 N ps (i+1) = {M with funds:=IntKind.u64.wrap (M.funds+p.L.c.loc),swept:=M.swept.set i true} := by
      rw[qg a2];unfold qdr;rw[U,qg K,if_pos (by rfl)]
     have H6:Hid (NodM G ((D.setCell ⟨g,1,none⟩ (.int .u64 (IntKind.u64.wrap (M.funds+p.L.c.loc)))).setCell ⟨g,11+i,none⟩ (.bool true)) g (qa7 N ps (i+1)) R m ps∧Upd (· = g) w ((D.setCell ⟨g,1,none⟩ (.int .u64 (IntKind.u64.wrap (M.funds+p.L.c.loc)))).setCell ⟨g,11+i,none⟩ (.bool true))):=by
      rw[I];exact qj ⟨v.self u7 h7 rfl,(((qg a6).trans (n5.mono (fun _ _ h=>h.elim))).trans u6).trans u7⟩
     clear a7 ND n5 t h6 u6 v h7 u7 X I U;go_wp2_with (first | ((with_reducible first|rfl|refine' ut ?_ ?_;rotate_left|refine' uu ?_)<;>intros) | refine⟨k1,?_⟩ | refine⟨trivial,?_⟩);go_roundw
     case rel=>exact⟨i+1,kk+1,by go_num,by go_num,by omega,by omega,H6⟩
     case measure=>simp[intOf];omega
  ·obtain rfl:i=ps.length:=by omega
   clear HN N1;go_wp2_with fail;go_ret;exact⟨⟨_,rfl⟩,(qg H).1,(qg H).2⟩
end
end
section
open Go.RowKit
def qjx(N:NodeV)(ps:List PeL)(i:Nat):RowV :=
 match ps[i]? with
 | none=>⟨0,0,0,0,false⟩
 | some p=>if N.swept[i]? = some true then ⟨p.L.c.s.ch,0,0,0,true⟩ else ⟨p.L.c.s.ch,p.L.c.loc,p.L.c.rem,qcu (qe2 true true p.L.c.xs) 0,false⟩
def qor(N:NodeV)(ps:List PeL)(i:Nat):Option Int :=
 if N.swept[i]? = some true then none else (ps[i]?).map fun p=>IntKind.u64.wrap (p.L.c.loc+qcu (qe2 true false p.L.c.xs) 0)
section
variable (G:Nat→Prop)(g:Nat)(N:NodeV)(R:RelV)(m:Nat)(ps:List PeL)
def qg4(ps:List PeL)(i:Nat):List Live:=match ps[i]? with | none=>[] | some p=>p.L.c.xs
theorem qfo{ps:List PeL}{i:Nat}{p:PeL}(h:ps[i]? = some p):qg4 ps i=p.L.c.xs:=by unfold qg4;rw[h]
theorem za9{w:World}(o:NodM G w g N R m ps){i:Nat}{p:PeL}(t:ps[i]? = some p):p.L.c.Ok:=by
 obtain⟨q,v⟩:=q46 (o.lk i p t);exact v.ok
theorem qp5{w:World}(o:NodM G w g N R m ps)(i:Nat):(qg4 ps i).length≤1000000∧∀x∈qg4 ps i,LiveOk x:=by
 unfold qg4;cases h:ps[i]? with
 | none=>exact⟨Nat.zero_le _,fun x q=>by cases q⟩
 | some p=>exact⟨(za9 G g N R m ps o h).few,(za9 G g N R m ps o h).xs⟩
theorem q82(w:World)(I:NodM G w g N R m ps)(J:ps.length≤8)(P:N.shut.length=8)(T:N.swept.length=8) :
  Calls Tryz.prog 39 #[.pointer (some ⟨g,0,none⟩)] w fun e w'=>∃v,e = .returned v∧w'.ownsRow w.heap.size 87 5 v ps.length (((List.range ps.length).map (qjx N ps)).flatMap RowV.cells)∧qq w w':=by
 obtain⟨H,E,M,K⟩:=I.toI
 have y:=qp5 G g N R m ps I
 have x:∀(i:Nat) (q:PeerV),H[i]? = some q→∃p,ps[i]? = some p∧PeQ w p q:=fun i q t=>by
  have D:=(List.getElem?_eq_some_iff.1 t).1;obtain⟨U,e,o⟩:=K i (ps[i]'(by omega)) (List.getElem?_eq_getElem (by omega));rw[t] at e;obtain rfl:=Option.some.inj e;exact⟨_,List.getElem?_eq_getElem (by omega),o⟩
 have h:=qqc g N R H (qg4 ps) w M (by omega) P T (fun i q t=>by
  obtain⟨p,C,o⟩:=x i q t;have z:=o.ok;refine⟨by rw[qfo C];exact o.chan,?_,?_⟩
  ·rw[o.k];have:=z.signed;omega
  ·rw[o.k];exact z.heard) (fun i=>(y i).1) (fun i=>(y i).2)
 have O:(List.range ps.length).map (qfb N H (qg4 ps))=(List.range ps.length).map (qjx N ps):=by
  refine List.map_congr_left fun i D=> ?_
  have D:=List.mem_range.1 D;have C:ps[i]? = some (ps[i]):=List.getElem?_eq_getElem D;obtain⟨q,e,o⟩:=K i _ C;unfold qfb qjx;rw[e,C,qfo C];simp only[o.setup,o.loc,o.rem]
 rw[E,O] at h
 exact h
theorem zag(w:World)(C:NodM G w g N R m ps)(E:ps.length≤8)(O:N.shut.length=8)(P:N.swept.length=8) :
  Calls Tryz.prog 40 #[.pointer (some ⟨g,0,none⟩)] w (qar (.int .u64 (qhl (qor N ps) N.funds ps.length)) w):=by
 obtain⟨z,y,K,H⟩:=C.toI
 have o:=qp5 G g N R m ps C
 have h:=qqs g N R z (qg4 ps) w K (by omega) O P (fun i q t=>by
  have D:=(List.getElem?_eq_some_iff.1 t).1;obtain⟨T,e,v⟩:=H i (ps[i]'(by omega)) (List.getElem?_eq_getElem (by omega));rw[t] at e;obtain rfl:=Option.some.inj e;rw[qfo (List.getElem?_eq_getElem (show i<ps.length by omega))];exact v.chan) (fun i=>(o i).1) (fun i=>(o i).2)
 have M:qh9 N z (qg4 ps)=qor N ps:=by
  funext i;unfold qh9 qor;by_cases D:i<ps.length
  ·have x:ps[i]? = some (ps[i]):=List.getElem?_eq_getElem D;obtain⟨q,e,v⟩:=H i _ x;rw[e,x,qfo x];simp only[Option.map_some,v.loc]
  ·have I:z[i]? = none:=List.getElem?_eq_none (by omega);have J:ps[i]? = none:=List.getElem?_eq_none (by omega);rw[I,J];rfl
 rw[y,M] at h
 exact h
theorem za5(w:World)(x:NodM G w g N R m ps)(o:ps.length≤8)(i:Nat)(p:PeL)(y:ps[i]? = some p) :
  Calls Tryz.prog 35 #[.pointer (some ⟨N.re,0,none⟩),.int .i64 (i:Int)] w (qae (.pointer (some ⟨p.k,0,none⟩)) w):=by
 obtain⟨D,C,v,z⟩:=x.toI
 obtain⟨q,e,t⟩:=z i p y
 have:=qg3 N.re R D w v.re (by omega) i q e
 rw[t.lk] at this
 exact this
theorem q9r(w:World)(o:NodM G w g N R m ps) :
  Calls Tryz.prog 41 #[.pointer (some ⟨g,0,none⟩)] w fun e w'=>(N.drains=true∧e = .returned (.int .i64 4)∧qq w w')∨(N.drains=false∧e = .returned (.int .i64 0)∧NodM G w' g N.drain R.drain m ps∧Upd G w w'):=by
 cases hd:N.drains with
 | true =>
  refine(qr3 g N w o.no hd).mono ?_;rintro e w' ⟨rfl,q⟩;exact .inl ⟨rfl,rfl,q.upd _⟩
 | false =>
  refine(qwv g N R w o.no o.re hd).mono ?_;rintro e w' ⟨rfl,v,x,u⟩;have t:=o.ge;exact .inr ⟨rfl,rfl,o.drains u v rfl x rfl rfl rfl,u.mono (fun i _ e=>by rcases e with rfl | rfl;exact t.1;exact t.2.1)⟩
def zas(w w':World)(s:SetupV)(o i:Int):Prop :=
 (N.drains=true→i=200)∧(N.drains=false→s.ours≤s.cap→N.funds<s.ours→i=61) ∧
 ((i≠0∧qq w w')∨(i=0∧N.drains=false∧s.ours≤N.funds∧s.may∧ps.length<8∧o=ps.length ∧
  ∃v k q,NodM G w' g {N with funds:=N.funds-s.ours} {R with peers:=v} m (ps++[⟨s.ch,k,q,.new (Ch.new s)⟩])∧Upd G w w'))
theorem za8(w:World)(C:NodM G w g N R m ps)(J:ps.length≤8)(s:SetupV)(K:s.Ok)(V:0≤N.funds∧N.funds<18446744073709551616) :
  Calls Tryz.prog 32 #[.pointer (some ⟨g,0,none⟩),.agg s.cells.toArray] w fun e w'=>∃z I:Int,e = .returned (.tuple #[.int .i64 z,.int .i64 I])∧zas G g N R m ps w w' s z I:=by
 obtain⟨H,x,T,X⟩:=C.toI
 refine(qqe g N R H s K w T (by omega) V).mono ?_
 rintro e w' ⟨rfl,M,O⟩
 refine⟨_,_,rfl,?_,?_,?_⟩
 ·intro hd;unfold qbh;rw[if_pos hd]
 ·intro hd Z W;unfold qbh;rw[if_neg (by rw[hd];decide),if_neg (by omega),if_pos W]
 ·by_cases o:qbh N R H s=0
  ·obtain⟨v,k,l,U,D,u,Y⟩:=O o;have y:qdn N R H s=ps.length:=by unfold qdn;rw[if_pos o,x]
   unfold qbh at o;split at o
   ·omega
   rename_i hd;split at o
   ·omega
   split at o
   ·omega
   rename_i E;unfold qcj at o;split at o
   ·omega
   split at o
   ·omega
   rename_i P;split at o
   ·omega
   split at o
   ·rename_i q;have t:=C.ge;refine .inr ⟨?_,by simpa using hd,by omega,q,by omega,y,v,k,_,C.opens x X K q rfl U D u Y,u.mono (fun i _ e=> ?_)⟩
    ·unfold qbh qcj;rw[if_neg hd,if_neg (by assumption),if_neg E,if_neg (by assumption),if_neg P,if_neg (by assumption),if_pos q]
    ·rcases e with rfl | rfl | e
     ·exact t.1
     ·exact t.2.1
     ·exact t.2.2.2.1 i e
   ·omega
  ·exact .inl ⟨o,M o⟩
end
theorem qxs(b:Bool)(key:ByteArray)(ch n l r:Int)(xs:List Live):qbt (qc6 b key ch n l r xs):=by unfold qc6 qpa;exact qhd _
theorem qym{c:Ch}(w:0≤c.s.ch∧c.s.ch<4294967296)(y:0≤c.k.signed∧c.k.signed≤65535):(c.sign.2.2=0→SayOk c.sign.2.1)∧c.sign.2.1.hash.length=32:=by
 unfold Ch.sign;by_cases h:qei c=0
 ·rw[if_pos h];have x:c.k.signed≠65535:=by
   intro e;unfold qei at h;rw[if_pos e] at h;split at h
   ·omega
   ·split at h<;>omega
  have i:=qia false c.s.key c.s.ch (c.k.signed+1) c.signing.loc c.signing.rem c.signing.xs;have o:=qxs false c.s.key c.s.ch (c.k.signed+1) c.signing.loc c.signing.rem c.signing.xs;have q:∃T:List Int,T.length=32∧qbt T∧(qch c).on c.s.ch=⟨6,c.s.ch,0,0,T,0,c.k.signed+1⟩:=by
   unfold qch;generalize qc6 false c.s.key c.s.ch (c.k.signed+1) c.signing.loc c.signing.rem c.signing.xs=T at i o;exact⟨T,i,o,rfl⟩
  clear i o;obtain⟨T,i,o,q⟩:=q;have t:((qch c).on c.s.ch).hash.length=32:=by
   rw[q];exact i
  have v:SayOk ((qch c).on c.s.ch):=by
   rw[q];exact qoe (by decide) w (by decide) (by decide) i o (by decide) ⟨by omega,by omega⟩ (q0k _ _ ⟨by omega,by omega⟩)
  clear q;generalize (qch c).on c.s.ch=m at t v;exact⟨fun _=>v,t⟩
 ·rw[if_neg h];exact⟨fun e=>absurd e h,qu⟩
def clC(o c:Int)(a b:Bool):Ch:= {Ch.new (.of 5 c o) with k:= {(Ch.new (.of 5 c o)).k with shutSaid:=a,shutHeard:=b}}
section
variable {o c:Int}{a b:Bool}
theorem qta:(clC o c false b).shut=(clC o c true b,qbo 5,0):=rfl
theorem q2u:(clC o c a false).hearShut=(clC o c a true,0):=rfl
theorem q9o:(clC o c a b).xs=[]:=rfl
end
theorem qpf{l:Lk}{c':Ch}{rec:ByteArray}{m:MsgV}{i:Int} : (l.acts c' rec m i).rest=l.rest∧(l.acts c' rec m i).broken=l.broken:=by
 unfold Lk.acts;split<;>exact⟨rfl,rfl⟩
def qfz:ByteArray:=⟨#[0,5,8,0,0,0,5]⟩
def qqm:ByteArray:=⟨#[8,0,0,0,5]⟩
theorem qky:hd qfz=5:=by decide +kernel
theorem qso:qfl qfz:=⟨by decide,by decide +kernel,by rw[qky];decide⟩
theorem qu3:(qfz.extract 0 (2+hd qfz).toNat).extract 2 (2+hd qfz).toNat=qqm:=by
 rw[qky];decide +kernel
theorem qu2:qfz.extract (2+hd qfz).toNat qfz.size=⟨#[]⟩:=by
 rw[qky];decide +kernel
theorem q55:qcc qqm=(qbo 5,0):=by decide +kernel
theorem LkB.hears{l:Lk}{n:Nat}(h:LkB l n){c':Ch}{rec:ByteArray}(v:rec.size≤1024):LkB {l with c:=c',j:=l.j.app rec} (n+1):=by
 have t:=qkt l.j.many.toNat rec;have i:=h.len;have m:=h.out;have q:=h.many;refine⟨h.dead,h.waits,h.fused,h.off,⟨?_,?_⟩,?_,?_⟩
 ·show 0≤l.j.many+1;omega
 ·show l.j.many+1≤((n+1:Nat):Int);omega
 ·show (l.j.bs++qsa l.j.many.toNat rec).size≤_;rw[ByteArray.size_append];omega
 ·show l.out.size≤_;omega
structure ClS(w0 w:World)(g re k:Nat)(o c:Int)(a b em:Bool)(n:Nat)(N:NodeV)(R:RelV)(S:Nat→Prop)(L:Lk)(m:Nat):Prop where
 nod:NodS w g N R 5 k S L m
 re:N.re=re
 shut:N.shut=a::List.replicate 7 false
 swept:N.swept=List.replicate 8 false
 funds:N.funds=100000-o
 dr:R.drains=false
 em:em=true→EmM w m
 lb:LkB L n
 rest:L.rest=⟨#[]⟩
 brk:L.broken=false
 ch:L.c=clC o c a b
 ge:∀i,S i→w0.heap.size≤i
 gm:w0.heap.size≤m
 gg:w0.heap.size≤g
 gmn:g≠m
 n0:qq w0 w
def ClX(w0 w:World)(g re k:Nat)(o c:Int)(a b em:Bool)(n:Nat):Prop:=∃N R S L m,ClS w0 w g re k o c a b em n N R S L m
section
variable {w0 w w':World}{g re k:Nat}{o c:Int}{a b em:Bool}{n:Nat}
theorem ClX.new(h:ClX w0 w g re k o c a b em n)(u:qq w w'):ClX w0 w' g re k o c a b em n:=by
 obtain⟨N,R,S,L,m,h⟩:=h;exact⟨N,R,S,L,m,h.nod.new u,h.re,h.shut,h.swept,h.funds,h.dr,fun e=>u.old (h.em e) (fun h=>h),h.lb,h.rest,h.brk,h.ch,h.ge,h.gm,h.gg,h.gmn,h.n0.trans u⟩
theorem ClX.n0(h:ClX w0 w g re k o c a b em n):qq w0 w:=by
 obtain⟨N,R,S,L,m,h⟩:=h;exact h.n0
theorem ClS.frge{N:NodeV}{R:RelV}{S:Nat→Prop}{L:Lk}{m:Nat}(h:ClS w0 w g re k o c a b em n N R S L m):∀i,Fr S w w' i→w0.heap.size≤i:=fun i q=>q.elim (h.ge i) (fun e=>by have:=h.n0.size;omega)
theorem ClX.close(x:Tabs w0)(E:n≤1000)(h:ClX w0 w g re k o c false b true n):Calls Tryz.prog 36 #[.pointer (some ⟨g,0,none⟩),.int .i64 0] w fun e w'=>e = .returned (.int .i64 0)∧ClX w0 w' g re k o c true b true (n+1):=by
 obtain⟨N,R,S,L,m,h⟩:=h;have t:ApD S:=q2e x h.ge;have v:L.c.shut.2.2=0:=by rw[h.ch,qta]
 have q:0≤L.c.s.ch∧L.c.s.ch<4294967296:=by rw[h.ch];show 0≤(5:Int)∧(5:Int)<4294967296;decide
 have y:=qzf g N R 5 k S L m false _ w h.nod h.shut (h.lb.ok (by omega)) (qj2 q) (qqn _) (x.new h.n0) t;rw[v] at y;refine y.mono ?_;rintro e w' ⟨rfl,z,u⟩;have C:qq w0 w':=h.n0.then u (fun i D e=>by
  rcases e with e | e
  ·have:=h.ge i e;omega
  ·have:=h.gg;omega)
 refine⟨rfl,N.closes 0,R,Fr S w w',L.shut,m,z,h.re,?_,h.swept,h.funds,h.dr,fun _=>u.old (h.em rfl) (fun e=>e.elim h.nod.mS (fun e=>h.gmn e.symm)),h.lb.shut (qj2 q),(qpf).1.trans h.rest,(qpf).2.trans h.brk,?_,h.frge,h.gm,h.gg,h.gmn,C⟩
 ·show N.shut.set 0 true=_;rw[h.shut];rfl
 ·rw[zab,h.ch,qta]
theorem ClX.bytes(D:Tabs w0)(U:n≤1000)(h:ClX w0 w g re k o c a false em n):Calls Tryz.prog 24 #[.pointer (some ⟨k,0,none⟩),.string qfz] w fun e w'=>e = .returned (.int .i64 0)∧ClX w0 w' g re k o c a true em (n+1):=by
 obtain⟨N,R,S,L,m,h⟩:=h;have t:ApD S:=q2e D h.ge;obtain⟨v,q⟩:∃v:Lk,v = {L with c:=clC o c a true,j:=L.j.app (qab [zr 6 1,qqm])} := ⟨_,rfl⟩;have x:qap (qbo 5)=true:=qkm 5;have M:=qwj k S L v qfz qqm w h.nod.lk h.lb.dead h.brk h.rest (by decide) qso qu3 qu2 (by rw[q];exact h.rest) (fun W sp en lo C H u y=>by
  rw[q];refine qt3 k S L sp en lo C H (qbo 5) (clC o c a true) qqm W y (h.lb.ok (by omega)) ((D.new h.n0).upd u t.c t.d) t (by rw[h.ch];rfl) q9o (by decide) (by decide) qu (by decide) (fun I=> ?_) (fun J P=> ?_)
  ·have:=qiz qqm I;rw[q55] at this;exact this
  ·have E:=qpw en C L.c (qbo 5) ⟨by decide,by decide,by decide,by decide,qu,qfg,by decide,by decide⟩ J (y.chn.new P) x (by rw[h.ch];rfl) rfl;rw[h.ch,q2u] at E;exact E)
 refine M.mono ?_;rintro e w' ⟨rfl,y,u⟩;have O:qq w0 w':=h.n0.then u (fun i T e=>by have:=h.ge i e;omega);have K:=h.nod.link u y;have z:LkB v (n+1):=by
  rw[q];exact h.lb.hears (by decide +kernel)
 refine⟨rfl,N,R,Fr S w w',v,m,K,h.re,h.shut,h.swept,h.funds,h.dr,fun e=>u.old (h.em e) h.nod.mS,z,by rw[q];exact h.rest,by rw[q];exact h.brk,by rw[q],h.frge,h.gm,h.gg,h.gmn,O⟩
end
def qde:List Live→Int
 | []=>0
 | x::xs=>x.h.amount+qde xs
theorem q5y(a b:List Live):qde (a++b)=qde a+qde b:=by
 induction a with
 | nil=>simp[qde]
 | cons x a i=>rw[List.cons_append,qde,qde,i];omega
structure OurF(x:Live):Prop where
 own:x.own=true
 paid:x.paid=false
 st:x.state=0∨x.state=1
 amt:0≤x.h.amount
structure ChF(cap:Int)(n:Nat)(c:Ch):Prop where
 chb:0≤c.s.ch∧c.s.ch<256
 key:c.s.key.size=0∧c.s.peer.size=0
 capb:1≤cap∧cap≤1125899906842624
 tot:c.loc+c.rem+qde c.xs=cap
 loc:0≤c.loc
 rem:0≤c.rem
 own:∀x∈c.xs,OurF x
 few:c.xs.length≤8
 sg:c.k.signed=if c.k.awaits=true then 1 else 0
 heard:c.k.heard=0
 nxt:0≤c.k.nextOwn∧c.k.nextOwn≤n
 news:c.news.length≤n
 last:c.last.length≤n
 shelf:qq3 c
def Ch.hasI(c:Ch):Int:=c.loc+qde c.xs
structure StepC(c c':Ch):Prop where
 has:c'.hasI=c.hasI
 s:c'.s=c.s
 shut:c.closed=true→c'=c
section
variable {cap:Int}{n:Nat}{c:Ch}
theorem StepC.refl(c:Ch):StepC c c:=⟨rfl,rfl,fun _=>rfl⟩
theorem qlv{xs:List Live}(h:∀x∈xs,OurF x):0≤qde xs:=by
 induction xs with
 | nil=>exact Int.le_refl _
 | cons x xs m =>
  have:=(h x (List.mem_cons_self ..)).amt;have:=m (fun y i=>h y (List.mem_cons_of_mem _ i));rw[qde];omega
theorem ChF.bnd(h:ChF cap n c):0≤qde c.xs∧c.loc≤1125899906842624∧c.rem≤1125899906842624∧qde c.xs≤1125899906842624:=by
 have i:=qlv h.own;have m:=h.capb;have o:=h.tot;have q:=h.loc;have t:=h.rem;omega
theorem ChF.mono{m:Nat}(h:ChF cap n c)(i:n≤m):ChF cap m c :=
 ⟨h.chb,h.key,h.capb,h.tot,h.loc,h.rem,h.own,h.few,h.sg,h.heard,⟨h.nxt.1,by have:=h.nxt.2;omega⟩,Nat.le_trans h.news i,Nat.le_trans h.last i,h.shelf⟩
theorem ChF.ch32(h:ChF cap n c):0≤c.s.ch∧c.s.ch<4294967296:=by have:=h.chb;omega
theorem ChF.new{ch i o:Int}(q:0≤ch∧ch<256)(t:(SetupV.of ch i o).may)(v:0≤o):ChF i 0 (Ch.new (.of ch i o)):=by
 obtain⟨z,C,D,-⟩:=t;refine⟨q,⟨rfl,rfl⟩,⟨z,C⟩,?_,v,?_,(fun x y=>by cases y),Nat.zero_le _,rfl,rfl,⟨Int.le_refl _,Int.le_refl _⟩,Nat.le_refl _,Nat.le_refl _,?_⟩
 ·show o+(i-o)+0=i;omega
 ·show 0≤i-o;have:o≤i:=D;omega
 ·intro p w b m;rw[List.eq_of_mem_replicate w] at m;have:=List.eq_of_mem_replicate m;omega
theorem qe4:c.closed=true↔c.k.shutSaid=true∧c.k.shutHeard=true∧c.xs=[]:=by
 unfold Ch.closed;rw[Bool.and_eq_true,Bool.and_eq_true,List.isEmpty_iff];exact⟨fun h=>⟨h.1.1,h.1.2,h.2⟩,fun h=>⟨⟨h.1,h.2.1⟩,h.2.2⟩⟩
theorem ChF.offer(h:ChF cap n c)(H:n≤1000000)(a:Nat)(i:Vector Int 32)(x:Int):ChF cap (n+1) (c.offer a i x).1∧StepC c (c.offer a i x).1:=by
 by_cases m:qbf c a x=0
 ·have e:(c.offer a i x).1=(c.offered a i x).say (qd1 c a i x):=by unfold Ch.offer;rw[if_pos m]
  rw[e];unfold qbf at m;split at m
  ·omega
  rename_i w;split at m
  ·omega
  split at m
  ·omega
  split at m
  ·omega
  rename_i z;split at m
  ·omega
  rename_i E;have o:qd6 true c.xs=c.xs.length:=by
   unfold qd6;rw[List.filter_eq_self.2];intro y q;rw[(h.own y q).own];rfl
  rw[o] at z;have D:=h.nxt;have t:IntKind.u64.wrap (c.k.nextOwn+1)=c.k.nextOwn+1:=qdl (by omega) (by omega);have v:qde (c.xs++[qc1 c a i x])=qde c.xs+a:=by
   rw[q5y];show _+((a:Int)+0)=_;omega
  have I:=h.tot;refine⟨⟨h.chb,h.key,h.capb,?_,?_,h.rem,?_,?_,h.sg,h.heard,?_,?_,Nat.le_trans h.last (by omega),h.shelf⟩,?_,rfl,?_⟩
  ·show c.loc-a+c.rem+qde (c.xs++[qc1 c a i x])=cap;rw[v];omega
  ·show 0≤c.loc-a;omega
  ·intro y q;rcases List.mem_append.1 q with q | q
   ·exact h.own y q
   ·rw[List.mem_singleton.1 q];exact⟨rfl,rfl,.inl rfl,by show (0:Int)≤(a:Int);omega⟩
  ·show (c.xs++[qc1 c a i x]).length≤8;rw[List.length_append,List.length_singleton];omega
  ·show 0≤IntKind.u64.wrap (c.k.nextOwn+1)∧IntKind.u64.wrap (c.k.nextOwn+1)≤((n+1:Nat):Int);rw[t];omega
  ·show (c.news++[_]).length≤n+1;rw[List.length_append,List.length_singleton];have:=h.news;omega
  ·show c.loc-a+qde (c.xs++[qc1 c a i x])=c.loc+qde c.xs;rw[v];omega
  ·intro C;exact absurd (qe4.1 C).1 w
 ·have e:(c.offer a i x).1=c:=by unfold Ch.offer;rw[if_neg m]
  rw[e];exact⟨h.mono (by omega),.refl _⟩
theorem ChF.shut(h:ChF cap n c):ChF cap n c.shut.1∧StepC c c.shut.1:=by
 unfold Ch.shut;split
 ·exact⟨h,.refl _⟩
 ·rename_i m;exact⟨⟨h.chb,h.key,h.capb,h.tot,h.loc,h.rem,h.own,h.few,h.sg,h.heard,h.nxt,h.news,h.last,h.shelf⟩,rfl,rfl,fun i=>absurd (qe4.1 i).1 m⟩
theorem ChF.hearShut(h:ChF cap n c):ChF cap n c.hearShut.1∧StepC c c.hearShut.1:=by
 unfold Ch.hearShut;split
 ·exact⟨h,.refl _⟩
 ·rename_i m;exact⟨⟨h.chb,h.key,h.capb,h.tot,h.loc,h.rem,h.own,h.few,h.sg,h.heard,h.nxt,h.news,h.last,h.shelf⟩,rfl,rfl,fun i=>absurd (qe4.1 i).2.1 m⟩
theorem q6p{x:Live}(h:OurF x):aft 1 x = {x with state:=1} := by
 have e:qb8 x.state x.own 1=1:=by
  rw[h.own];rcases h.st with e | e
  ·rw[e];decide
  ·rw[e];decide
 unfold aft;rw[e]
theorem qxf{xs:List Live}(h:∀x∈xs,OurF x):qet (qao 1 xs)=xs.map (fun x=> {x with state:=1})∧∀c:Ch,(qao 1 xs).foldl qce c=c:=by
 induction xs with
 | nil=>exact⟨rfl,fun _=>rfl⟩
 | cons x xs t =>
  obtain⟨m,o⟩:=t (fun y q=>h y (List.mem_cons_of_mem _ q));have e:=q6p (h x (List.mem_cons_self ..));have i:qao 1 (x::xs) = {x with state:=1} :: qao 1 xs:=by
   show aft 1 x::qao 1 xs=_;rw[e]
  rw[i];refine⟨?_,fun c=> ?_⟩
  ·show qet (_::qao 1 xs)=_::_;rw[←m];rfl
  ·rw[List.foldl_cons];have:qce c {x with state:=1} = c:=by
    unfold qce;rw[if_neg (by show ¬(1:Int)=9;decide)]
   rw[this];exact o c
theorem qlw(xs:List Live):qde (xs.map fun x=> {x with state:=1})=qde xs:=by
 induction xs with
 | nil=>rfl
 | cons x xs i=>rw[List.map_cons,qde,qde,i]
theorem ChF.sign(h:ChF cap n c):ChF cap (n+1) c.sign.1∧StepC c c.sign.1:=by
 by_cases i:qei c=0
 ·have e:c.sign.1=(c.signing.say (qch c)).turned:=by unfold Ch.sign;rw[if_pos i]
  rw[e];obtain⟨E,H⟩:=qxf h.own;have z:c.goOn 1 = {c with xs:=c.xs.map (fun x=> {x with state:=1})} := by
   unfold Ch.goOn;rw[E,H]
  have m:c.k.awaits=false:=by
   unfold qei at i;split at i
   ·omega
   ·rename_i q;simpa using q
  have o:qbv 1 c.xs=true:=by
   unfold qei at i;rw[if_neg (by rw[m];decide)] at i;split at i
   ·omega
   ·rename_i q;simpa using q
  have t:c.k.signed=0:=by rw[h.sg,m];rfl
  have v:c.signing = {c with xs:=c.xs.map (fun x=> {x with state:=1}),k:= {c.k with signed:=c.k.signed+1,awaits:=true,revoked:=false}} := by
   unfold Ch.signing;rw[z]
  rw[v];generalize (qch c).on c.s.ch=M;generalize qch c=I;refine⟨⟨h.chb,h.key,h.capb,?_,h.loc,h.rem,?_,?_,?_,h.heard,⟨h.nxt.1,?_⟩,Nat.zero_le _,?_,h.shelf⟩,?_,rfl,?_⟩
  ·show c.loc+c.rem+qde (c.xs.map fun x=> {x with state:=1})=cap;rw[qlw];exact h.tot
  ·intro y D;obtain⟨x,C,rfl⟩:=List.mem_map.1 D;have:=h.own x C;exact⟨this.own,this.paid,.inr rfl,this.amt⟩
  ·show (c.xs.map _).length≤8;rw[List.length_map];exact h.few
  ·show c.k.signed+1=if true=true then 1 else 0;rw[t];rfl
  ·have:=h.nxt.2;show c.k.nextOwn≤((n+1:Nat):Int);omega
  ·show (c.news++[_]).length≤n+1;rw[List.length_append,List.length_singleton];have:=h.news;omega
  ·show c.loc+qde (c.xs.map fun x=> {x with state:=1})=c.loc+qde c.xs;rw[qlw]
  ·intro w;rw[(qe4.1 w).2.2] at o;cases o
 ·have e:c.sign.1=c:=by unfold Ch.sign;rw[if_neg i]
  rw[e];exact⟨h.mono (by omega),.refl _⟩
theorem ChF.inv(h:ChF cap n c):c.Inv:=⟨h.shelf,by rw[h.key.2];decide,h.ch32,by rw[h.heard];decide,Nat.le_trans h.few (by decide)⟩
end
structure LkF(cap:Int)(n:Nat)(L:Lk):Prop where
 c:ChF cap n L.c
 lb:LkB L n
 tick:∃t:Nat,L.ticks=t∧t≤n
 rest:L.broken=false→L.rest=⟨#[]⟩
structure StepF(cap:Int)(n:Nat)(L L':Lk):Prop where
 f:LkF cap n L'
 c:StepC L.c L'.c
section
variable {cap:Int}{n:Nat}{L:Lk}
theorem LkF.mono{m:Nat}(h:LkF cap n L)(i:n≤m):LkF cap m L:=by
 obtain⟨t,o,q⟩:=h.tick;exact⟨h.c.mono i,h.lb.mono i,⟨t,o,by omega⟩,h.rest⟩
theorem qpg{l:Lk}{c':Ch}{rec:ByteArray}{m:MsgV}{i:Int} : (l.acts c' rec m i).ticks=l.ticks∧(l.acts c' rec m i).rest=l.rest∧(l.acts c' rec m i).broken=l.broken:=by
 unfold Lk.acts;split<;>exact⟨rfl,rfl,rfl⟩
theorem LkF.acts(h:LkF cap n L){c':Ch}{rec:ByteArray}{m:MsgV}{i:Int}(z:rec.size≤1024)(C:i=0→SayOk m)(x:ChF cap (n+1) c')(y:StepC L.c c'):StepF cap (n+1) L (L.acts c' rec m i):=by
 obtain⟨o,q,v⟩:=@qpg L c' rec m i;obtain⟨t,w,D⟩:=h.tick;refine⟨⟨?_,h.lb.acts z C,⟨t,by rw[o,w],by omega⟩,?_⟩,?_⟩
 ·rw[qmv];exact x
 ·rw[q,v];exact h.rest
 ·rw[qmv];exact y
theorem LkF.offer(h:LkF cap n L)(t:n≤1000000)(a r:Nat)(x:Int)(i:List Int)(q:i.length=32)(v:(L.c.offer a (qbq i) x).2.2=0→SayOk (L.c.offer a (qbq i) x).2.1):StepF cap (n+1) L (L.offerW a r x i):=by
 obtain⟨m,o⟩:=h.c.offer t a (qbq i) x;exact h.acts (qn8 q) v m o
theorem LkF.shut(h:LkF cap n L):StepF cap (n+1) L L.shut:=by
 obtain⟨i,m⟩:=h.c.shut;exact h.acts (by rw[qaq];decide) (qj2 h.c.ch32) (i.mono (by omega)) m
theorem LkF.tick1(h:LkF cap n L){t:Nat}(I:L.ticks=t):StepF cap (n+1) L (L.tick t):=by
 obtain⟨H,e,D⟩:=h.tick;have E:t=H:=by omega
 have x:LkF cap (n+1) {L with ticks:=(t:Int)+1} := by
  have i:=h.lb.mono (Nat.le_succ n);exact⟨h.c.mono (by omega),⟨i.dead,i.waits,i.fused,i.off,i.many,i.len,i.out⟩,⟨t+1,rfl,by omega⟩,h.rest⟩
 unfold Lk.tick;split
 ·exact⟨x,.refl _⟩
 ·have C:LkB ({L with ticks:=(t:Int)+1} : Lk) n:=⟨h.lb.dead,h.lb.waits,h.lb.fused,h.lb.off,h.lb.many,h.lb.len,h.lb.out⟩;obtain⟨y,z⟩:=h.c.sign;have o:0≤L.c.k.signed∧L.c.k.signed≤65535:=by rw[h.c.sg];split<;>decide
  obtain⟨q,v,w⟩:=@qpg ({L with ticks:=(t:Int)+1} : Lk) L.c.sign.1 (zr 4 1) L.c.sign.2.1 L.c.sign.2.2;refine⟨⟨?_,C.acts (by rw[qaq];decide) (qym h.c.ch32 o).1,⟨t+1,q,by omega⟩,?_⟩,?_⟩
  ·show ChF cap (n+1) (Lk.acts _ L.c.sign.1 _ _ _).c;rw[qmv];exact y
  ·intro m;exact v.trans (h.rest (by rw[←w];exact m))
  ·show StepC L.c (Lk.acts _ L.c.sign.1 _ _ _).c;rw[qmv];exact z
end
def qca(c:Nat):ByteArray:=⟨#[0,5,8,0,0,0,UInt8.ofNat c]⟩
def qfc(c:Nat):ByteArray:=⟨#[8,0,0,0,UInt8.ofNat c]⟩
theorem qu1:∀c:Fin 256,hd (qca c.val)=5∧qdv (qca c.val)=false∧frT (qca c.val)=qfc c.val∧frR (qca c.val)=⟨#[]⟩∧qcc (qfc c.val)=(qbo (c.val:Int),0):=by decide +kernel
theorem qoq(c:Nat)(h:c<256):hd (qca c)=5∧qdv (qca c)=false∧frT (qca c)=qfc c∧frR (qca c)=⟨#[]⟩∧qcc (qfc c)=(qbo (c:Int),0):=qu1 ⟨c,h⟩
theorem qpb(c:Nat)(h:c<256):qfl (qca c):=by
 obtain⟨i,m,-⟩:=qoq c h;refine⟨?_,m,?_⟩
 ·show 2≤7;decide
 ·rw[i];show (2:Int)+5≤((7:Nat):Int);decide
theorem q1n{xs:List Live}(h:∀x∈xs,OurF x)(w:Bool)(c:Int):qfe (qbo c) w xs xs=[]:=by
 have o:qgw xs xs=[]:=by
  unfold qgw;rw[List.filter_eq_nil_iff.2]
  ·rfl
  ·intro x m;unfold qim;rw[(h x m).own];simp
 have q:qi0 xs xs=[]:=by
  unfold qi0;rw[List.filter_eq_nil_iff.2]
  ·rfl
  ·intro x m;have v:(xs.findIdx? (qcx true x.h.id)).isNone=false:=by
    cases t:xs.findIdx? (qcx true x.h.id) with
    | some i=>rfl
    | none =>
     have:=List.findIdx?_eq_none_iff.1 t x m;unfold qcx at this;rw[(h x m).own] at this;simp at this
   unfold qio;rw[v];simp
 unfold qfe;rw[if_neg (by show ¬(8:Int)=4;decide),if_neg (by show ¬(8:Int)=9;decide),o,q];rfl
section
variable {cap:Int}{n:Nat}{L:Lk}
theorem qnj{c:Ch}(ch:Nat)(i:c.s.ch=ch):c.hears (qbo (ch:Int))=(c.hearShut.1,[],c.hearShut.2):=by
 have m:qap (qbo (ch:Int))=true:=qkm _;unfold Ch.hears Ch.hear;rw[if_neg (by show ¬(8:Int)=9;decide),if_neg,if_neg (by show ¬(8:Int)=3;decide),if_neg (by show ¬(8:Int)=4;decide),if_neg (by show ¬(8:Int)=5;decide),if_neg (by show ¬(8:Int)=6;decide),if_neg (by show ¬(8:Int)=7;decide)];rw[m,i];rintro (e | e)
 ·cases e
 ·exact e rfl
theorem LkF.bytes(h:LkF cap n L)(I:L.broken=false)(hn:n≤100000)(ch:Nat)(O:ch<256)(P:L.c.s.ch=ch) :
  ∃M E,Bts {L with rest:=L.rest++qca ch} [] M [] E∧StepF cap (n+1) L M:=by
 obtain⟨Z,h2,V,W,N⟩:=qoq ch O
 have H:=qpb ch O
 have i:=h.rest I
 have e0:L.rest++qca ch=qca ch:=by rw[i];exact ByteArray.empty_append
 rw[e0]
 obtain⟨q,v⟩:∃q:Lk,q = {L with rest:=qca ch} := ⟨_,rfl⟩
 have o:q.rest=qca ch:=by rw[v]
 have w:({q with rest:=frR q.rest} : Lk)=L:=by
  rw[o,W,v,←i]
 have x:frT q.rest=qfc ch:=by rw[o,V]
 rw[←v]
 have D:LHearOk L [] (qfc ch):=by
  refine⟨(h.lb.ok (by omega)).toW,by decide,?_,fun _=> ?_⟩
  ·show 5≤1000;decide
  ·rw[N];have e:=qnj ch P;have hx:=h.c.few;refine⟨by show (3:Int)≤8∧(8:Int)≤9;decide,h.c.inv,?_,?_,?_,by omega,?_⟩
   ·have:=h.c.last;omega
   ·rw[e];intro m X;cases X
   ·rw[e];exact Nat.zero_le _
   ·rw[e];have:=h.c.hearShut.1.few;show (L.c.hearShut.1).xs.length≤1000;omega
 have C:L.hears [] (qfc ch)=L.hearD [] (qbo (ch:Int)) (qfc ch) (L.c.hearShut.1,[],L.c.hearShut.2):=by
  unfold Lk.hears;rw[N];rw[if_pos rfl,qnj ch P]
 obtain⟨R,T⟩:=h.c.hearShut
 have hw:=h.lb.waits
 by_cases J:L.c.k.shutHeard=true
 ·have y:L.c.hearShut=(L.c,4):=by unfold Ch.hearShut;rw[if_pos J]
  have hd:L.hears [] (qfc ch)=(L,[],4):=by
   rw[C,y];unfold Lk.hearD Lk.hearR qkh;rw[if_neg (by show ¬(4:Int)=0;decide),if_neg (by show ¬(4:Int)=0;decide)]
  have I:=Bts.err q [] (by rw[o];exact H) (by rw[w,x];exact D) (by rw[w,x,hd];show (4:Int)≠0;decide);rw[w,x,hd] at I;refine⟨_,_,I,⟨h.c.mono (by omega),?_,?_,?_⟩,.refl _⟩
  ·have:=h.lb.mono (Nat.le_succ n);exact⟨this.dead,this.waits,this.fused,this.off,this.many,this.len,this.out⟩
  ·obtain⟨t,a,b⟩:=h.tick;exact⟨t,a,by omega⟩
  ·intro e;cases e
 ·have y:L.c.hearShut.2=0:=by unfold Ch.hearShut;rw[if_neg J]
  have U:L.c.hearShut.1.xs=L.c.xs:=by unfold Ch.hearShut;rw[if_neg J]
  have hd:L.hears [] (qfc ch)=({L with c:=L.c.hearShut.1,j:=L.j.app (qab [zr 6 1,qfc ch])},[],0):=by
   rw[C];unfold Lk.hearD Lk.hearR qkh Lk.heard;rw[if_pos y,if_pos y,y];show (_,[]++qfe _ _ L.c.xs L.c.hearShut.1.xs,(0:Int))=_;rw[U,q1n h.c.own];rfl
  have z:Bts ({L with c:=L.c.hearShut.1,j:=L.j.app (qab [zr 6 1,qfc ch])} : Lk) [] {L with c:=L.c.hearShut.1,j:=L.j.app (qab [zr 6 1,qfc ch])} [] (if qdv ({L with c:=L.c.hearShut.1,j:=L.j.app (qab [zr 6 1,qfc ch])} : Lk).rest=true then 80 else 0):=Bts.stop _ [] (by
   show ¬qfl L.rest;rw[i];intro Y;exact absurd Y.1 (by decide))
  have K:=Bts.step q [] (by rw[o];exact H) (by rw[w,x];exact D) (by rw[w,x,hd]) _ _ _ (by rw[w,x,hd];exact z);refine⟨_,_,K,⟨R.mono (by omega),h.lb.hears ?_,?_,fun _=>i⟩,T⟩
  ·show (zr 6 1++(qfc ch++⟨#[]⟩)).size≤1024;rw[ByteArray.size_append,ByteArray.size_append,qaq];show 1+(5+0)≤1024;decide
  ·obtain⟨t,a,b⟩:=h.tick;exact⟨t,a,by omega⟩
end
theorem qpc(g:Nat)(S:Nat→Prop)(l:Lk)(es:List EvV)(s:ByteArray)(w:World)(h:LkV w g S l es)(i:l.dead=false)(t:l.broken=true) :
  Calls Tryz.prog 24 #[.pointer (some ⟨g,0,none⟩),.string s] w (qae (.int .i64 5) w):=by
 obtain⟨sp,en,lo,m,o,q,ev,h⟩:=h
 exact qo4 g m {l with ev:=ev} s w ⟨sp,en,lo,o,q,h.lk⟩ i t
end
end Go.Proofs.YtfmkdoachjgjbaaGreatDoor
