/-
  Law 14: one offer goes through, and is settled: the plain states, round by round.
-/
import Derived.Test.YthnohmjbbeahmaaGreatDoorMdc
import Derived.Test.YthnohmjbbeahmaaGreatDoorMch
import Derived.Test.YthnohmjbbeahmaaGreatDoorMdg
import Derived.Test.YthnohmjbbeahmaaGreatDoorMec
import Derived.Test.YthnohmjbbeahmaaGreatDoorMcj
import Derived.Test.YthnohmjbbeahmaaGreatDoorDuS
import Derived.Test.YthnohmjbbeahmaaGreatDoorDuT
import Derived.Test.YthnohmjbbeahmaaGreatDoorMdj
import Derived.Test.YthnohmjbbeahmaaGreatDoorMde
import Derived.Test.YthnohmjbbeahmaaGreatDoorMea
set_option linter.unusedVariables false
set_option linter.unusedSimpArgs false
namespace Go.Proofs.YthnohmjbbeahmaaGreatDoor
open Go.RowKit
theorem bl{a b:Nat}(h:Nat.ble a b=true):a≤b:=Nat.le_of_ble_eq_true h
theorem zco{i a:Int}(h:List Int)(g:0≤a∧a≤1125899906842624):qam ⟨3,3,i,a,h,5,0⟩=true:=by
 unfold qam;show (if (5:Int)<0∨1073741824<(5:Int)∨(0:Int)<0∨65535<(0:Int)∨1125899906842624<a then false else decide (qg1 _ _=qfi 3))=true;rw[if_neg (by omega)];kernel_rfl
theorem zf3(i:Int)(h:List Int):qam ⟨4,3,i,0,h,0,0⟩=true:=by kernel_rfl
theorem qxy(T:List Int){n:Int}(g:0≤n∧n≤65535):qam ⟨6,3,0,0,T,0,n⟩=true:=by
 unfold qam;show (if (0:Int)<0∨1073741824<(0:Int)∨n<0∨65535<n∨1125899906842624<(0:Int) then false else decide (qg1 _ _=qfi 6))=true;rw[if_neg (by omega)];kernel_rfl
theorem qxx(T:List Int){n:Int}(g:0≤n∧n≤65535):qam ⟨7,3,0,0,T,0,n⟩=true:=by
 unfold qam;show (if (0:Int)<0∨1073741824<(0:Int)∨n<0∨65535<n∨1125899906842624<(0:Int) then false else decide (qg1 _ _=qfi 7))=true;rw[if_neg (by omega)];kernel_rfl
theorem q1l(x:Int):(qbd x).length=32:=rfl
theorem qqi:qa7 (qbd 5):=qis 5 ⟨by decide,by decide⟩
theorem qqj:qa7 (qbd 6):=qis 6 ⟨by decide,by decide⟩
section
variable {o c sg x y:Int}{k:CountsV}{L:List Live}{sh:List KeptV}{nw la:List MsgV}
theorem zfu(i:qdb (qbd 6) sh)(l:k.heard≤65535)(m:L.length≤16):(Ch.mk (duA o c) k x y L sh nw la).Inv :=
 ⟨fun p g=>(i p g).1,by show (2:Nat)  ≤ _;decide,⟨by show (0:Int)≤3;decide,by show (3:Int)<_;decide⟩,by show k.heard<_;omega,by show L.length≤_;omega⟩
theorem zfv(i:qdb (qbd 5) sh)(l:k.heard≤65535)(m:L.length≤16):(Ch.mk (duB o c) k x y L sh nw la).Inv :=
 ⟨fun p g=>(i p g).1,by show (1:Nat)  ≤ _;decide,⟨by show (0:Int)≤3;decide,by show (3:Int)<_;decide⟩,by show k.heard<_;omega,by show L.length≤_;omega⟩
theorem zj9(i:nw.length≤100)(g:L.length≤16):SignOk (Ch.mk (duA o c) k x y L sh nw la) :=
 ⟨by show (1:Nat)  ≤ _;decide,⟨by show (0:Int)≤3;decide,by show (3:Int)<_;decide⟩,by show nw.length<_;omega,g⟩
theorem zka(i:nw.length≤100)(g:L.length≤16):SignOk (Ch.mk (duB o c) k x y L sh nw la) :=
 ⟨by show (2:Nat)  ≤ _;decide,⟨by show (0:Int)≤3;decide,by show (3:Int)<_;decide⟩,by show nw.length<_;omega,g⟩
theorem zd2{T:List Int}{n:Int}(i:T.length=32)(g:qa7 T)(l:0≤n∧n≤65536):MsgOk ⟨6,3,0,0,T,0,n⟩ :=
 qg4 ⟨by decide,by decide⟩ ⟨by decide,by decide⟩ ⟨by decide,by decide⟩ ⟨by decide,by decide⟩ i g ⟨by decide,by decide⟩ l
theorem zdm{T:List Int}{n:Int}(i:T.length=32)(g:qa7 T)(l:0≤n∧n≤65536):MsgOk ⟨7,3,0,0,T,0,n⟩ :=
 qg4 ⟨by decide,by decide⟩ ⟨by decide,by decide⟩ ⟨by decide,by decide⟩ ⟨by decide,by decide⟩ i g ⟨by decide,by decide⟩ l
end
theorem SignSt.none{c:Ch}(h:c.k.awaits=true∨zv 1 c.xs=false)(g:SignOk c):SignSt c c MsgV.zero 5:=⟨zdu c h,g,qg0⟩
section
variable (o c n x y sg j:Int)(h:Vector Int 32)(ra rb pd:Bool)(sa sb:List KeptV)(nw la lb:List MsgV)
def itm(g:Bool)(st:Int)(pd:Bool):Live:=⟨⟨j,n,h,5⟩,g,st,pd⟩
def pM:MsgV:=⟨3,3,j,n,h.toList,5,0⟩
noncomputable def sgA(xs:List Live):MsgV:=⟨6,3,0,0,zx false ⟨#[120]⟩ 3 (sg+1) x y xs,0,sg+1⟩
noncomputable def sgB(xs:List Live):MsgV:=⟨6,3,0,0,zx false ⟨#[121,121]⟩ 3 (sg+1) y x xs,0,sg+1⟩
def rvA:MsgV:=⟨7,3,0,0,(qcu (qbd 5) (65535-sg)).1,0,sg⟩
def rvB:MsgV:=⟨7,3,0,0,(qcu (qbd 6) (65535-sg)).1,0,sg⟩
theorem q4p(xs:List Live)(g:0≤sg∧sg≤1000):MsgOk (sgA x y sg xs):=zd2 (qgz _ _ _ _ _ _ _) (qgp _ _ _ _ _ _ _) ⟨by omega,by omega⟩
theorem zdr(xs:List Live)(g:0≤sg∧sg≤1000):MsgOk (sgB x y sg xs):=zd2 (qgz _ _ _ _ _ _ _) (qgp _ _ _ _ _ _ _) ⟨by omega,by omega⟩
theorem zdk(g:0≤sg∧sg≤1000):MsgOk (rvA sg):=zdm (qjg _ (q1l 5) _) (qin _ qqi _) ⟨by omega,by omega⟩
theorem qyn(g:0≤sg∧sg≤1000):MsgOk (rvB sg):=zdm (qjg _ (q1l 6) _) (qin _ qqj _) ⟨by omega,by omega⟩
def eA(k:CountsV)(L:List Live):Ch:=⟨duA o c,k,x,y,L,sa,nw,la⟩
def eB(k:CountsV)(L:List Live):Ch:=⟨duB o c,k,y,x,L,sb,nw,lb⟩
end
section
variable {o c n x y sg j no nt hd:Int}{h:Vector Int 32}{ra rb pd aw f1 f2:Bool}{sa sb:List KeptV}{nw la lb:List MsgV}{k:CountsV}{L L1 L2:List Live}{z:Live}
theorem qdm{st:Int}{l:Bool}(g:st≠9):∀z∈[itm n j h l st pd],z.state≠9:=by
 intro z i;rw[List.mem_singleton.1 i];exact g
theorem signA(t:0≤sg∧sg≤1000)(m:zv 1 L=true)(l:qv 1 L=L1)(g:∀z∈L1,z.state≠9)(q:nw.length≤100)(i:L.length≤16) :
  SignSt (eA o c x y sa nw la ⟨sg,hd,false,no,nt,f1,f2,ra⟩ L) (eA o c x y sa [] (nw++[sgA x y sg L1]) ⟨sg+1,hd,true,no,nt,f1,f2,false⟩ L1) (sgA x y sg L1) 0 :=
 ⟨zdt (by omega) m l g,zj9 q i,q4p _ _ _ _ t⟩
theorem signB(t:0≤sg∧sg≤1000)(m:zv 1 L=true)(l:qv 1 L=L1)(g:∀z∈L1,z.state≠9)(q:nw.length≤100)(i:L.length≤16) :
  SignSt (eB o c x y sb nw lb ⟨sg,hd,false,no,nt,f1,f2,rb⟩ L) (eB o c x y sb [] (nw++[sgB x y sg L1]) ⟨sg+1,hd,true,no,nt,f1,f2,false⟩ L1) (sgB x y sg L1) 0 :=
 ⟨zdt (by omega) m l g,zka q i,zdr _ _ _ _ t⟩
theorem qqs(h:k.awaits=true∨zv 1 L=false)(i:nw.length≤100)(g:L.length≤16):SignSt (eA o c x y sa nw la k L) (eA o c x y sa nw la k L) MsgV.zero 5:= .none h (zj9 i g)
theorem qqt(h:k.awaits=true∨zv 1 L=false)(i:nw.length≤100)(g:L.length≤16):SignSt (eB o c x y sb nw lb k L) (eB o c x y sb nw lb k L) MsgV.zero 5:= .none h (zka i g)
theorem zj0{xs:List Live}(m:0≤sg∧sg≤1000)(q:qdb (qbd 6) sa)(w:L.length≤16)(C:zv 3 L=true)(t:qv 3 L=xs.map qfb)(g:∀z∈xs.map qfb,z.state≠9)(v:qv 4 (xs.map qfb)=L2)(i:∀z∈L2,z.state≠9) :
  HearSt (eA o c x y sa nw la ⟨hd,sg,aw,no,nt,f1,f2,ra⟩ L) (sgB x y sg xs) (eA o c x y sa nw la ⟨hd,sg+1,aw,no,nt,f1,f2,true⟩ L2) [rvA sg]:=by
 refine⟨zdr _ _ _ _ m,?_,zfu q (by show sg≤_;omega) w,.inr (.inr (.inr (.inl rfl))),(fun l D=>by rw[List.mem_singleton.1 D];exact zdk _ m),bl rfl⟩
 refine(qq7 (qxy _ ⟨by omega,by omega⟩) rfl rfl).trans ?_
 exact zb4 m.1 C t g v i (qid _ _ _ _ _ _).symm
theorem zkl{xs:List Live}(m:0≤sg∧sg≤1000)(q:qdb (qbd 5) sb)(w:L.length≤16)(C:zv 3 L=true)(t:qv 3 L=xs.map qfb)(g:∀z∈xs.map qfb,z.state≠9)(v:qv 4 (xs.map qfb)=L2)(i:∀z∈L2,z.state≠9) :
  HearSt (eB o c x y sb nw lb ⟨hd,sg,aw,no,nt,f1,f2,rb⟩ L) (sgA x y sg xs) (eB o c x y sb nw lb ⟨hd,sg+1,aw,no,nt,f1,f2,true⟩ L2) [rvB sg]:=by
 refine⟨q4p _ _ _ _ m,?_,zfv q (by show sg≤_;omega) w,.inr (.inr (.inr (.inl rfl))),(fun l D=>by rw[List.mem_singleton.1 D];exact qyn _ m),bl rfl⟩
 refine(qq7 (qxy _ ⟨by omega,by omega⟩) rfl rfl).trans ?_
 exact zb4 m.1 C t g v i (qid _ _ _ _ _ _).symm
def qp6(g:Bool)(n x:Int):Int:=if g=true then IntKind.u64.wrap (x+n) else x
theorem q8c{xs:List Live}(i:0≤sg∧sg≤1000)(m:qdb (qbd 5) sb)(v:L.length≤16)(w:zv 3 L=true)(q:qv 3 L=xs.map qfb)(g:∀z∈xs.map qfb,z.state≠9)(t:qv 4 (xs.map qfb)=[itm n j h false 9 pd]) :
  HearSt (eB o c x y sb nw lb ⟨hd,sg,aw,no,nt,f1,f2,rb⟩ L) (sgA x y sg xs) (eB o c (qp6 (!pd) n x) (qp6 pd n y) sb nw lb ⟨hd,sg+1,aw,no,nt,f1,f2,true⟩ []) [rvB sg]:=by
 refine⟨q4p _ _ _ _ i,?_,zfv m (by show sg≤_;omega) v,.inr (.inr (.inr (.inl rfl))),(fun l C=>by rw[List.mem_singleton.1 C];exact qyn _ i),bl rfl⟩
 refine(qq7 (qxy _ ⟨by omega,by omega⟩) rfl rfl).trans ?_
 refine(zb3 i.1 w q g t rfl (qid _ _ _ _ _ _).symm).trans ?_
 cases pd<;>rfl
theorem zkk(C:0≤sg∧sg≤1000)(g:qdb (qbd 6) sa)(v:hd≤65535)(t:L.length≤16)(m:qv 2 L=L1)(q:∀z∈L1,z.state≠9) :
  HearSt (eA o c x y sa nw la ⟨sg+1,hd,true,no,nt,f1,f2,ra⟩ L) (rvB sg) (eA o c x y (qmz (rvB sg).hash (65535-sg) sa) nw la ⟨sg+1,hd,false,no,nt,f1,f2,ra⟩ L1) []:=by
 refine⟨qyn _ C,?_,zfu g v t,.inr (.inr (.inr (.inr (.inl rfl)))),(fun l w=>by cases w),bl rfl⟩
 refine(qq8 (qxx _ ⟨by omega,by omega⟩) rfl rfl).trans ?_
 have e:=zb2 (s:=duA o c) (hd:=hd) (no:=no) (nt:=nt) (x:=x) (y:=y) (f1:=f1) (f2:=f2) (rv:=ra) (nw:=nw) (la:=la) (ch:=3) (qxt (h:=qbd 6) (i:=65535-sg) (ps:=sa) (qol (by omega) (by omega)) g) m q
 exact congrArg (fun p:Ch × Int=>(p.1,([]:List MsgV),p.2)) e
theorem zjz(C:0≤sg∧sg≤1000)(g:qdb (qbd 5) sb)(v:hd≤65535)(t:L.length≤16)(m:qv 2 L=L1)(q:∀z∈L1,z.state≠9) :
  HearSt (eB o c x y sb nw lb ⟨sg+1,hd,true,no,nt,f1,f2,rb⟩ L) (rvA sg) (eB o c x y (qmz (rvA sg).hash (65535-sg) sb) nw lb ⟨sg+1,hd,false,no,nt,f1,f2,rb⟩ L1) []:=by
 refine⟨zdk _ C,?_,zfv g v t,.inr (.inr (.inr (.inr (.inl rfl)))),(fun l w=>by cases w),bl rfl⟩
 refine(qq8 (qxx _ ⟨by omega,by omega⟩) rfl rfl).trans ?_
 have e:=zb2 (s:=duB o c) (hd:=hd) (no:=no) (nt:=nt) (x:=y) (y:=x) (f1:=f1) (f2:=f2) (rv:=rb) (nw:=nw) (la:=lb) (ch:=3) (qxt (h:=qbd 5) (i:=65535-sg) (ps:=sb) (qol (by omega) (by omega)) g) m q
 exact congrArg (fun p:Ch × Int=>(p.1,([]:List MsgV),p.2)) e
theorem q8b(w:0≤sg∧sg≤1000)(g:qdb (qbd 6) sa)(t:hd≤65535)(q:L.length≤16)(m:qv 2 L=[itm n j h true 9 pd]) :
  HearSt (eA o c x y sa nw la ⟨sg+1,hd,true,no,nt,f1,f2,ra⟩ L) (rvB sg) (eA o c (qp6 (!pd) n x) (qp6 pd n y) (qmz (rvB sg).hash (65535-sg) sa) nw la ⟨sg+1,hd,false,no,nt,f1,f2,ra⟩ []) []:=by
 refine⟨qyn _ w,?_,zfu g t q,.inr (.inr (.inr (.inr (.inl rfl)))),(fun l v=>by cases v),bl rfl⟩
 refine(qq8 (qxx _ ⟨by omega,by omega⟩) rfl rfl).trans ?_
 have e:=zb1 (s:=duA o c) (hd:=hd) (no:=no) (nt:=nt) (x:=x) (y:=y) (f1:=f1) (f2:=f2) (rv:=ra) (nw:=nw) (la:=la) (ch:=3) (qxt (h:=qbd 6) (i:=65535-sg) (ps:=sa) (qol (by omega) (by omega)) g) m rfl
 refine(congrArg (fun p:Ch × Int=>(p.1,([]:List MsgV),p.2)) e).trans ?_
 cases pd<;>rfl
theorem qpq(g:qdb (qbd 6) sa):qdb (qbd 6) (qmz (rvB sg).hash (65535-sg) sa):=qsn qqj g
theorem qpr(g:qdb (qbd 5) sb):qdb (qbd 5) (qmz (rvA sg).hash (65535-sg) sb):=qsn qqi g
theorem zjx(w:1≤n∧n≤1125899906842624)(v:0≤j∧j≤1000)(C:0≤x)(m:∀b∈h.toList,0≤b∧b≤255)(g:qdb (qbd 5) sb)(q:hd≤65535) :
  HearSt (eB o c (x+n) y sb nw lb ⟨sg,hd,aw,no,j,f1,false,rb⟩ []) (pM n j h) (eB o c x y sb nw lb ⟨sg,hd,aw,no,j+1,f1,false,rb⟩ [itm n j h false 0 false]) []:=by
 refine⟨qg4 ⟨by decide,by decide⟩ ⟨by decide,by decide⟩ ⟨by omega,by omega⟩ ⟨by omega,by omega⟩ (by simp) m ⟨by decide,by decide⟩ ⟨by decide,by decide⟩,?_,zfv g q (bl rfl),.inl rfl,(fun l t=>by cases t),bl rfl⟩
 refine(q5p (zco _ ⟨by omega,by omega⟩) rfl rfl).trans ?_
 have e:qav (eB o c (x+n) y sb nw lb ⟨sg,hd,aw,no,j,f1,false,rb⟩ []) (pM n j h)=0:=by
  unfold qav;rw[if_neg (by show ¬(false=true);decide),if_neg (by show ¬(n=0);omega),if_neg (by show ¬(j≠j);omega),if_neg (by show ¬((5:Int)=0);decide),if_neg (by show ¬(8≤0);decide),if_neg (by show ¬(x+n<n);omega)]
 have a:(eB o c (x+n) y sb nw lb ⟨sg,hd,aw,no,j,f1,false,rb⟩ []).added (pM n j h)=eB o c x y sb nw lb ⟨sg,hd,aw,no,j+1,f1,false,rb⟩ [itm n j h false 0 false]:=by
  show (Ch.mk (duB o c) ⟨sg,hd,aw,no,IntKind.u64.wrap (j+1),f1,false,rb⟩ y (x+n-n) [⟨⟨j,n,qcl h.toList,5⟩,false,0,false⟩] sb nw lb)=_;rw[qlq,qdq (by omega) (by omega),show x+n-n=x by omega];rfl
 have i:(eB o c (x+n) y sb nw lb ⟨sg,hd,aw,no,j,f1,false,rb⟩ []).hearAdd (pM n j h)=(eB o c x y sb nw lb ⟨sg,hd,aw,no,j+1,f1,false,rb⟩ [itm n j h false 0 false],0):=by
  unfold Ch.hearAdd;rw[if_pos e,a]
 exact congrArg (fun p:Ch × Int=>(p.1,([]:List MsgV),p.2)) i
theorem zjy{p:List Int}(D:0≤j∧j≤1000)(C:p.length=32)(q:qa7 p)(w:qfm p h.toList=true)(g:qdb (qbd 6) sa)(t:k.heard≤65535) :
  HearSt (eA o c x y sa nw la k [itm n j h true 4 false]) ⟨4,3,j,0,p,0,0⟩ (eA o c x y sa nw la k [itm n j h true 5 true]) []:=by
 refine⟨qg4 ⟨by decide,by decide⟩ ⟨by decide,by decide⟩ ⟨by omega,by omega⟩ ⟨by decide,by decide⟩ C q ⟨by decide,by decide⟩ ⟨by decide,by decide⟩,?_,zfu g t (bl rfl),.inr (.inl rfl),(fun l v=>by cases v),bl rfl⟩
 refine(q5q (zf3 _ _) rfl rfl).trans ?_
 have i:qb0 true j [itm n j h true 4 false]=some (0,itm n j h true 4 false):=by
  unfold qb0;have:qfo true j (itm n j h true 4 false)=true:=by simp[qfo,itm]
  simp[List.findIdx?_cons,this]
 have e:=qhb (c:=eA o c x y sa nw la k [itm n j h true 4 false]) (m:=⟨4,3,j,0,p,0,0⟩) i
 rw[if_pos (by exact w)] at e
 rw[e]
 rfl
end
section
variable {o c n x y sg j:Int}{h:Vector Int 32}{ra rb pd bad:Bool}{sa sb:List KeptV}{la lb:List MsgV}{F:MsgV}
theorem q1g(D:0≤sg∧sg≤999)(C:1≤n∧n≤1125899906842624)(z:0≤j∧j≤1000)(E:0≤x)(w:∀b∈h.toList,0≤b∧b≤255)(v:qdb (qbd 6) sa)(m:qdb (qbd 5) sb) :
  ∃i l q t,qdb (qbd 6) i∧qdb (qbd 5) l ∧
  Rests 500 ⟨eA o c x y sa [pM n j h] la ⟨sg,sg,false,j+1,0,false,false,ra⟩ [itm n j h true 0 false],eB o c (x+n) y sb [] lb ⟨sg,sg,false,0,j,false,false,rb⟩ [],[],[pM n j h],bad⟩
   ⟨eA o c x y i [] q ⟨sg+1,sg+1,false,j+1,0,false,false,true⟩ [itm n j h true 4 false],eB o c x y l [] t ⟨sg+1,sg+1,false,0,j+1,false,false,false⟩ [itm n j h false 4 false],[],[],bad⟩:=by
 have g:0≤sg∧sg≤1000:=⟨D.1,by omega⟩
 refine⟨_,_,[pM n j h]++[sgA x y sg [itm n j h true 1 false]],[]++[sgB x y sg [itm n j h false 3 false]],qpq (sg:=sg) v,qpr (sg:=sg) m,?_⟩
 refine go_round (.no _) (.yes (zjx C z E w m (by omega))) (signA (L1:=[itm n j h true 1 false]) g (by kernel_rfl) (by kernel_rfl) (qdm (by decide)) (bl rfl) (bl rfl)) (qqt (.inr (by kernel_rfl)) (bl rfl) (bl rfl)) ⟨bl rfl,bl rfl⟩ ⟨bl rfl,bl rfl⟩ ⟨bl rfl,bl rfl⟩ rfl ?_
 refine go_round (.no _) (.yes (zkl (xs:=[itm n j h true 1 false]) (L2:=[itm n j h false 2 false]) g m (bl rfl) (by kernel_rfl) (by kernel_rfl) (by exact qdm (st:=1) (by decide)) (by kernel_rfl) (qdm (by decide)))) (qqs (.inl rfl) (bl rfl) (bl rfl)) (signB (L1:=[itm n j h false 3 false]) g (by kernel_rfl) (by kernel_rfl) (qdm (by decide)) (bl rfl) (bl rfl)) ⟨bl rfl,bl rfl⟩ ⟨bl rfl,bl rfl⟩ ⟨bl rfl,bl rfl⟩ rfl ?_
 refine go_round (.yes (zkk (L1:=[itm n j h true 2 false]) g v (by omega) (bl rfl) (by kernel_rfl) (qdm (by decide)))) (.no _) (qqs (.inr (by kernel_rfl)) (bl rfl) (bl rfl)) (qqt (.inl rfl) (bl rfl) (bl rfl)) ⟨bl rfl,bl rfl⟩ ⟨bl rfl,bl rfl⟩ ⟨bl rfl,bl rfl⟩ rfl ?_
 refine go_round (.yes (zj0 (xs:=[itm n j h false 3 false]) (L2:=[itm n j h true 4 false]) g (qpq (sg:=sg) v) (bl rfl) (by kernel_rfl) (by kernel_rfl) (by exact qdm (st:=3) (by decide)) (by kernel_rfl) (qdm (by decide)))) (.yes (zjz (L1:=[itm n j h false 4 false]) g m (by omega) (bl rfl) (by kernel_rfl) (qdm (by decide)))) (qqs (.inr (by kernel_rfl)) (bl rfl) (bl rfl)) (qqt (.inr (by kernel_rfl)) (bl rfl) (bl rfl)) ⟨bl rfl,bl rfl⟩ ⟨bl rfl,bl rfl⟩ ⟨bl rfl,bl rfl⟩ rfl ?_
 exact go_stop (qqs (.inr (by kernel_rfl)) (bl rfl) (bl rfl)) (qqt (.inr (by kernel_rfl)) (bl rfl) (bl rfl))
theorem qye(g:0≤sg∧sg≤1000)(t:qdb (qbd 6) sa)(v:qdb (qbd 5) sb)
  (w:HearSt (eA o c x y sa [] la ⟨sg,sg,false,j+1,0,false,false,true⟩ [itm n j h true 4 false]) F (eA o c x y sa [] la ⟨sg,sg,false,j+1,0,false,false,true⟩ [itm n j h true 5 pd]) []) :
  ∃i l m q,qdb (qbd 6) i∧qdb (qbd 5) l ∧
  Rests 500 ⟨eA o c x y sa [] la ⟨sg,sg,false,j+1,0,false,false,true⟩ [itm n j h true 4 false],eB o c x y sb [F] lb ⟨sg,sg,false,0,j+1,false,false,false⟩ [itm n j h false 5 pd],[F],[],bad⟩
   ⟨eA o c (qp6 (!pd) n x) (qp6 pd n y) i [] m ⟨sg+1,sg+1,false,j+1,0,false,false,false⟩ [],eB o c (qp6 (!pd) n x) (qp6 pd n y) l [] q ⟨sg+1,sg+1,false,0,j+1,false,false,true⟩ [],[],[],bad⟩:=by
 refine⟨_,_,[]++[sgA x y sg [itm n j h true 8 pd]],[F]++[sgB x y sg [itm n j h false 6 pd]],qpq (sg:=sg) t,qpr (sg:=sg) v,?_⟩
 refine go_round (.yes w) (.no _) (qqs (.inr (by kernel_rfl)) (bl rfl) (bl rfl)) (signB (L1:=[itm n j h false 6 pd]) g (by kernel_rfl) (by kernel_rfl) (qdm (by decide)) (bl rfl) (bl rfl)) ⟨bl rfl,bl rfl⟩ ⟨bl rfl,bl rfl⟩ ⟨bl rfl,bl rfl⟩ rfl ?_
 refine go_round (.yes (zj0 (xs:=[itm n j h false 6 pd]) (L2:=[itm n j h true 7 pd]) g t (bl rfl) (by kernel_rfl) (by kernel_rfl) (by exact qdm (st:=6) (by decide)) (by kernel_rfl) (qdm (by decide)))) (.yes (zjz (L1:=[itm n j h false 7 pd]) g v (by omega) (bl rfl) (by kernel_rfl) (qdm (by decide)))) (signA (L1:=[itm n j h true 8 pd]) g (by kernel_rfl) (by kernel_rfl) (qdm (by decide)) (bl rfl) (bl rfl)) (qqt (.inr (by kernel_rfl)) (bl rfl) (bl rfl)) ⟨bl rfl,bl rfl⟩ ⟨bl rfl,bl rfl⟩ ⟨bl rfl,bl rfl⟩ rfl ?_
 refine go_round (.no _) (.yes (q8c (n:=n) (j:=j) (h:=h) (pd:=pd) (xs:=[itm n j h true 8 pd]) g (qpr (sg:=sg) v) (bl rfl) (by kernel_rfl) (by kernel_rfl) (by exact qdm (st:=8) (by decide)) (by kernel_rfl))) (qqs (.inl rfl) (bl rfl) (bl rfl)) (qqt (.inr (by kernel_rfl)) (bl rfl) (bl rfl)) ⟨bl rfl,bl rfl⟩ ⟨bl rfl,bl rfl⟩ ⟨bl rfl,bl rfl⟩ rfl ?_
 refine go_round (.yes (q8b (n:=n) (j:=j) (h:=h) (pd:=pd) g t (by omega) (bl rfl) (by kernel_rfl))) (.no _) (qqs (.inr (by kernel_rfl)) (bl rfl) (bl rfl)) (qqt (.inr (by kernel_rfl)) (bl rfl) (bl rfl)) ⟨bl rfl,bl rfl⟩ ⟨bl rfl,bl rfl⟩ ⟨bl rfl,bl rfl⟩ rfl ?_
 exact go_stop (qqs (.inr (by kernel_rfl)) (bl rfl) (bl rfl)) (qqt (.inr (by kernel_rfl)) (bl rfl) (bl rfl))
end
section
variable {o c n x y j:Int}{h:Vector Int 32}{k:CountsV}{sa sb:List KeptV}{nw la lb:List MsgV}{q:List Int}
theorem q6v:qb0 false j [itm n j h false 4 false]=some (0,itm n j h false 4 false):=by
 unfold qb0;have:qfo false j (itm n j h false 4 false)=true:=by simp[qfo,itm]
 simp[List.findIdx?_cons,this]
theorem q7x(g:qfm q h.toList=true):(eB o c x y sb [] lb k [itm n j h false 4 false]).fulfill j q=(eB o c x y sb [⟨4,3,j,0,q,0,0⟩] lb k [itm n j h false 5 true],⟨4,3,j,0,q,0,0⟩,0):=by
 rw[qr7 (c:=eB o c x y sb [] lb k [itm n j h false 4 false]) q6v,if_pos (by exact g)];rfl
theorem q8y(i:1≤n∧n≤x)(g:0≤j∧j≤1000){sg hd nt:Int}{aw f2 rv:Bool} :
  (eA o c x y sa [] la ⟨sg,hd,aw,j,nt,false,f2,rv⟩ []).offer n h 5=(eA o c (x-n) y sa [pM n j h] la ⟨sg,hd,aw,j+1,nt,false,f2,rv⟩ [itm n j h true 0 false],pM n j h,0):=by
 have e:qbo (eA o c x y sa [] la ⟨sg,hd,aw,j,nt,false,f2,rv⟩ []) n 5=0:=by
  unfold qbo;rw[if_neg (by show ¬(false=true);decide),if_neg (by omega),if_neg (by omega),if_neg (by show ¬(8≤0);decide),if_neg (by show ¬(x<n);omega)]
 unfold Ch.offer
 rw[if_pos e]
 have a:(eA o c x y sa [] la ⟨sg,hd,aw,j,nt,false,f2,rv⟩ []).offered n h 5=eA o c (x-n) y sa [] la ⟨sg,hd,aw,j+1,nt,false,f2,rv⟩ [itm n j h true 0 false]:=by
  show (Ch.mk (duA o c) ⟨sg,hd,aw,IntKind.u64.wrap (j+1),nt,false,f2,rv⟩ (x-n) y [⟨⟨j,n,h,5⟩,true,0,false⟩] sa [] la)=_;rw[qdq (by omega) (by omega)];rfl
 rw[a]
 rfl
theorem zkm(i:0≤o∧o≤c)(g:c≤1125899906842624):Ch.new (duB o c)=eB o c o (c-o) (List.replicate 17 .zero) [] [] .zero []:=by
 show (Ch.mk (duB o c) .zero (IntKind.u64.wrap (c-o)) (c-IntKind.u64.wrap (c-o)) [] (List.replicate 17 .zero) [] [])=_;rw[qdq (by omega) (by omega),show c-(c-o)=o by omega];rfl
end
def qlr(o c:Int):Kon:=⟨fun s=>if s=true then duA o c else duB o c,3,c⟩
theorem qjd{o c:Int}(i:0≤o)(h:1≤c∧c≤1125899906842624∧o≤c):(qlr o c).Ok:=by
 have g:IntKind.u64.wrap (c-o)=c-o:=qdq (by omega) (by omega);refine⟨?_,⟨by show (0:Int)≤3;decide,by show (3:Int)<4294967296;decide⟩,?_,?_,?_,?_,h.2.1,?_,?_⟩
 ·intro s;cases s<;>rfl
 ·intro s;cases s<;>rfl
 ·intro s;cases s
  ·exact(show 2≤64 by decide)
  ·exact(show 1≤64 by decide)
 ·intro s;cases s
  ·show 0≤IntKind.u64.wrap (c-o);rw[g];omega
  ·exact i
 ·intro s;cases s
  ·show IntKind.u64.wrap (c-o)+o=c;rw[g];omega
  ·show o+IntKind.u64.wrap (c-o)=c;rw[g];omega
 ·intro s;cases s<;>rfl
 ·intro s;cases s
  ·exact⟨rfl,qis 6 ⟨by decide,by decide⟩⟩
  ·exact⟨rfl,qis 5 ⟨by decide,by decide⟩⟩
theorem qtb{o c:Int}(g:0≤o)(h:1≤c∧c≤1125899906842624∧o≤c):PInv (qlr o c) 0 (qek o c) :=
 ⟨qcn.new (qjd g h) true,rfl,Int.le_refl _,Int.le_refl _⟩
section
variable {K:Kon}{N n:Nat}{P Q R:Pr}
theorem q6b(l:K.Ok)(o:N<99000):∀(m:Nat) (R:Pr) (h:Nat),R.mu≤m→RsD K N P h true R→∃q t,RsD K N P t false q
 | 0,R,h,v,r=>by
  have g:=r.next l o;cases i:R.gk 2 with
  | true=>have:=(qm3 l o r.bnd 2 (Nat.le_refl _)).1 i;omega
  | false=>rw[i] at g;exact⟨_,_,g⟩
 | m+1,R,h,v,r=>by
  have g:=r.next l o;cases i:R.gk 2 with
  | true =>
   have:=(qm3 l o r.bnd 2 (Nat.le_refl _)).1 i;rw[i] at g;exact q6b l o m _ _ (by omega) g
  | false=>rw[i] at g;exact⟨_,_,g⟩
theorem Bnd.rest(l:K.Ok)(m:N<99000)(h:Bnd K N P):Bnd K N P.restD∧P.restD.Rest:=by
 obtain⟨R,k,r⟩:=q6b l m P.mu P 0 (Nat.le_refl _) (RsD.start h);obtain⟨o,q,g,i⟩:=r.stop;exact⟨i,g⟩
theorem qnt(h:P.Rest):P.restD=P∧P.restN=0:=qdk h _
theorem ql0(i:K.Ok)(l:N<99000):∀(m k:Nat) (R:Pr),Bnd K N R→R.mu≤m→R.mu≤k→Pr.rounds m R=Pr.rounds k R
 | 0,0,_,_,_,_=>rfl
 | 0,k+1,R,h,t,_=>by
  cases o:R.gk 2 with
  | true=>have:=(qm3 i l h 2 (Nat.le_refl _)).1 o;omega
  | false =>
   obtain⟨g,-,-⟩:=qh9 i l h o;rw[(qdk g 0).1,(qdk g (k+1)).1]
 | m+1,0,R,h,_,q=>by
  cases o:R.gk 2 with
  | true=>have:=(qm3 i l h 2 (Nat.le_refl _)).1 o;omega
  | false =>
   obtain⟨g,-,-⟩:=qh9 i l h o;rw[(qdk g 0).1,(qdk g (m+1)).1]
 | m+1,k+1,R,h,t,q=>by
  cases o:R.gk 2 with
  | true =>
   have:=(qm3 i l h 2 (Nat.le_refl _)).1 o;exact ql0 i l m k (R.sk 2) (h.sk i l 2 (Nat.le_refl _)) (by omega) (by omega)
  | false =>
   obtain⟨g,-,-⟩:=qh9 i l h o;rw[(qdk g (m+1)).1,(qdk g (k+1)).1]
theorem qqg(g:K.Ok)(i:N<99000)(h:Bnd K N P):P.restD=(P.sk 2).restD:=by
 have e:P.restD=Pr.rounds (P.mu+1) P:=ql0 g i _ _ _ h (Nat.le_refl _) (by omega);have l:(P.sk 2).mu≤P.mu:=by
  obtain⟨a,b⟩:=qm3 g i h 2 (Nat.le_refl _);cases m:P.gk 2 with
  | true=>exact Nat.le_of_lt (a m)
  | false=>exact Nat.le_of_eq (congrArg Pr.mu (b m).1)
 rw[e];exact ql0 g i P.mu (P.sk 2).mu (P.sk 2) (h.sk g i 2 (Nat.le_refl _)) l (Nat.le_refl _)
theorem qxo(g:K.Ok)(l:n<99000)(h:PInv K n P):P.hears0=P.heard 0:=by
 have i:=(h.side (k:=0) (by decide)).1;obtain⟨a,b,wa,wb,bad⟩:=P;cases wa with
 | nil=>rfl
 | cons m ms =>
  have e:=qng (c:=a) (i.hears g (by omega)).1;show _=((⟨(a.hears m).1,b,ms,wb++(a.hears m).2.1,bad || decide ((a.hears m).2.2≠0)⟩:Pr),true);rw[e];rfl
theorem qxq(g:K.Ok)(l:n<99000)(h:PInv K n P):P.hears1=P.heard 1:=by
 have i:=(h.side (k:=1) (by decide)).1;obtain⟨a,b,wa,wb,bad⟩:=P;cases wb with
 | nil=>rfl
 | cons m ms =>
  have e:=qng (c:=b) (i.hears g (by omega)).1;show _=((⟨a,(b.hears m).1,wa++(b.hears m).2.1,ms,bad || decide ((b.hears m).2.2≠0)⟩:Pr),true);rw[e];rfl
theorem qtj(g:K.Ok)(q:N<99000)(h:Bnd K N P):P.round=P.sk 2:=by
 obtain⟨n,i,o⟩:=h;have l:=qxo g (by omega) i;have m:=qxq g (by omega) (i.heard g (by omega) (k:=0) (by decide));show P.hears0.1.hears1.1.sign0.sign1=_;rw[l,m];rfl
theorem qqh(i:K.Ok)(l:N<99000):∀ {m:Nat} {P Q:Pr},Rests m P Q→Bnd K N P→Q.Rest→P.restD=Q:=by
 intro m P Q h
 induction h with
 | out P=>intro _ o;exact(qnt o).1
 | stop n P _ _ =>
  intro g o;rw[qqg i l g,←qtj i l g];exact(qnt o).1
 | step n P Q _ _ _ q =>
  intro g o;rw[qqg i l g,←qtj i l g];exact q (by rw[qtj i l g];exact g.sk i l 2 (Nat.le_refl _)) o
def qfu(K:Kon)(t:Nat)(P:Pr):Prop:=∃a r n,a+r=t∧PInv K n P∧n≤a+500*r∧n+P.mu≤501*a
theorem qfu.inv{t:Nat}(h:qfu K t P)(m:t≤150):∃n,n<59000∧PInv K n P:=by
 obtain⟨a,r,n,e,g,i,l⟩:=h;exact⟨n,by omega,g⟩
theorem qfu.other{t m:Nat}(h:qfu K t P)(l:∀n,PInv K n P→n<59000→PInv K (n+1) Q)(v:t≤150):qfu K (t+1) Q:=by
 obtain⟨a,r,n,e,i,o,q⟩:=h;have g:=l n i (by omega);have:=g.mu;exact⟨a+1,r,n+1,by omega,g,by omega,by omega⟩
theorem qfu.rest{t:Nat}(l:K.Ok)(h:qfu K t P)(x:t≤150):qfu K (t+1) P.restD:=by
 obtain⟨a,r,n,e,g,q,v⟩:=h;have w:=g.mu;obtain⟨m,i,o⟩:=(Bnd.of g).rest l (by omega) |>.1
 exact⟨a,r+1,m,by omega,i,by omega,by omega⟩
theorem qfu.does{t:Nat}(i:K.Ok)(h:qfu K t P)(E:t≤150){x:ActD}(F:x.Ok):qfu K (t+1) (P.doesD x):=by
 have l:x.k<2:=qeo _;by_cases q:x.kind=11
 ·have e:P.doesD x=P.restD:=by unfold Pr.doesD;rw[if_neg (by omega),if_neg (by omega),if_neg (by omega),if_neg (by omega),if_neg (by omega),if_neg (by omega),if_neg (by omega),if_pos q]
  rw[e];exact h.rest i E
 refine h.other (m:=0) (fun n g H=> ?_) E;unfold Pr.doesD;by_cases v:x.kind=0∨x.kind=1
 ·rw[if_pos v];exact(g.offer i (by omega) l F.n.1 (by rw[qeh (qlx _)];exact qgt _)).1
 rw[if_neg v];by_cases w:x.kind=2
 ·rw[if_pos w];exact(g.fulfill i l x.id (qb4 x.p) (qex _) (qh8 _)).1
 rw[if_neg w];by_cases y:x.kind=3
 ·rw[if_pos y];exact(g.fail i l x.id x.expiry).1
 rw[if_neg y];by_cases z:x.kind=4∨x.kind=5
 ·rw[if_pos z];exact(g.sign i l).1
 rw[if_neg z];by_cases C:x.kind=6∨x.kind=7∨x.kind=8
 ·rw[if_pos C];exact(g.heard i (by omega) l).mono (by omega)
 rw[if_neg C];by_cases D:x.kind=9
 ·rw[if_pos D];exact(g.shut i l).1
 rw[if_neg D];by_cases o:x.kind=10
 ·rw[if_pos o];exact(g.cutD i (by omega) _ _).mono (by omega)
 rw[if_neg o,if_neg q];exact g.mono (by omega)
theorem qfu.start{o c:Int}(g:0≤o)(h:1≤c∧c≤1125899906842624∧o≤c):qfu (qlr o c) 0 (qek o c):=⟨0,0,0,rfl,qtb g h,Nat.le_refl _,Nat.le_refl _⟩
noncomputable def Pr.actsD(P:Pr)(xs:List ActD):Pr:=xs.foldl Pr.doesD P
theorem qhr(P:Pr){xs:List ActD}{i:Nat}{x:ActD}(g:xs[i]? = some x):P.actsD (xs.take (i+1))=(P.actsD (xs.take i)).doesD x:=by
 unfold Pr.actsD;rw[List.take_add_one,g,List.foldl_append];rfl
theorem qhq(l:K.Ok)(m:qfu K 0 P){xs:List ActD}(o:∀x∈xs,x.Ok)(q:xs.length≤150):∀i,i≤xs.length→qfu K i (P.actsD (xs.take i))
 | 0,_=>m
 | i+1,h=>by
  have g:i<xs.length:=by omega
  rw[qhr P (List.getElem?_eq_getElem g)];exact(qhq l m o q i (by omega)).does l (by omega) (o _ (List.getElem_mem g))
end
noncomputable def qmt:Ch × MsgV × Int:=((qek 10 10).en 0).offer 4 (qcl (ofI (qb4 1))) 5
noncomputable def qnv:Pr:=(qek 10 10).act 0 qmt
noncomputable def qv0:Ch × MsgV × Int:=(qnv.restD.en 1).fulfill 0 (qb4 1)
noncomputable def qnw:Pr:=qnv.restD.act 1 qv0
theorem qoc:(qlr 10 10).Ok:=qjd (by decide) ⟨by decide,by decide,by decide⟩
theorem q55:(qcl (ofI (qb4 1))).toList=ofI (qb4 1):=qeh (qlx _)
theorem qx2{c:Ch}(h:c.k.awaits=true∨zv 1 c.xs=false):qa0 c≠0:=by
 rw[←qjr,zdu c h];show (5:Int)≠0;decide
theorem q9d{P:Pr}{m:MsgV}{ms:List MsgV}(g:P.way 0=m::ms):0<P.restN:=by
 have i:=(qnf (show 0<2 by decide) g).2;have q:1≤P.ck 2:=by
  show 1≤0+b2n (P.heard 0).2+_;rw[i];show 1≤0+1+_;omega
 have t:1≤P.mu:=by
  have g:P.wa=m::ms:=g;have o:1≤mwt m:=by unfold mwt;split<;>decide
  unfold Pr.mu;rw[g];show 1≤_+(mwt m+mwL ms)+_;omega
 unfold Pr.restN;obtain⟨k,l⟩:∃k,P.mu=k+1:=⟨P.mu-1,by omega⟩;rw[l];show 0<P.ck 2+_;omega
theorem q1p:qmt.2.2=0∧(qox qmt).id=0∧PInv (qlr 10 10) 1 qnv∧qv0.2.2=0∧0<qnw.restN∧(qnw.restD.en 0).loc=6∧(qnw.restD.en 0).rem=4∧Bnd (qlr 10 10) 600 qnv.restD∧Bnd (qlr 10 10) 1200 qnw:=by
 have J:∀b∈(qcl (ofI (qb4 1))).toList,0≤b∧b≤255:=by rw[q55];exact qgt _
 have q:qfm (qb4 1) (qcl (ofI (qb4 1))).toList=true:=by
  rw[q55];unfold qfm;exact beq_self_eq_true _
 have w:=qtb (o:=10) (c:=10) (by decide) ⟨by decide,by decide,by decide⟩;have g:PInv (qlr 10 10) 1 qnv:=(w.offer qoc (by decide) (k:=0) (by decide) (N:=4) (ex:=5) (hv:=qcl (ofI (qb4 1))) (by decide) J).1;have C:qmt=(eA 10 10 (10-4) (10-10) (List.replicate 17 .zero) [pM 4 0 (qcl (ofI (qb4 1)))] [] ⟨0,0,false,0+1,0,false,false,false⟩ [itm 4 0 (qcl (ofI (qb4 1))) true 0 false],pM 4 0 (qcl (ofI (qb4 1))),0) :=
  q8y (o:=10) (c:=10) (x:=10) (y:=10-10) (sa:=List.replicate 17 .zero) (la:=[]) ⟨by decide,by decide⟩ ⟨by decide,by decide⟩
 have n1:Ch.new (duB 10 10)=eB 10 10 10 (10-10) (List.replicate 17 .zero) [] [] .zero []:=zkm ⟨by decide,by decide⟩ (by decide);have V:∀x,qdb (qbd x) (List.replicate 17 .zero):=fun x=>qv9 _
 generalize hh:qcl (ofI (qb4 1))=h at *
 have T:qnv=⟨eA 10 10 6 0 (List.replicate 17 .zero) [pM 4 0 h] [] ⟨0,0,false,0+1,0,false,false,false⟩ [itm 4 0 h true 0 false],eB 10 10 (6+4) 0 (List.replicate 17 .zero) [] [] ⟨0,0,false,0,0,false,false,false⟩ [],[],[pM 4 0 h],false⟩:=by
  unfold qnv;rw[C];show (⟨_,Ch.new (duB 10 10),[],_,false⟩:Pr)=_;rw[n1];rfl
 obtain⟨H,v,t,l,U,tb,X⟩:=q1g (o:=10) (c:=10) (n:=4) (x:=6) (y:=0) (sg:=0) (j:=0) (h:=h) (ra:=false) (rb:=false) (bad:=false) (la:=[]) (lb:=[]) ⟨by decide,by decide⟩ ⟨by decide,by decide⟩ ⟨by decide,by decide⟩ (by decide) J (V 6) (V 5);have I:=Bnd.of g;have L:=g.mu;have E:=qqh qoc (N:=1+qnv.mu) (by omega) X (by rw[←T];exact I) ⟨rfl,rfl,qx2 (.inr (by kernel_rfl)),qx2 (.inr (by kernel_rfl))⟩;rw[←T] at E;have Bq:=(I.rest qoc (by omega)).1;obtain⟨m1,O,i2⟩:=Bq;have f1:qv0=(eB 10 10 6 0 v [⟨4,3,0,0,qb4 1,0,0⟩] l ⟨1,1,false,0,1,false,false,false⟩ [itm 4 0 h false 5 true],⟨4,3,0,0,qb4 1,0,0⟩,0):=by
  unfold qv0;rw[E];exact q7x q
 have D:qnw=⟨eA 10 10 6 0 H [] t ⟨1,1,false,0+1,0,false,false,true⟩ [itm 4 0 h true 4 false],eB 10 10 6 0 v [⟨4,3,0,0,qb4 1,0,0⟩] l ⟨1,1,false,0,0+1,false,false,false⟩ [itm 4 0 h false 5 true],[⟨4,3,0,0,qb4 1,0,0⟩],[],false⟩:=by
  unfold qnw;rw[f1,E];rfl
 have i:PInv (qlr 10 10) (m1+1) qnw:=(O.fulfill qoc (k:=1) (by decide) 0 (qb4 1) (qex _) (qh8 _)).1;obtain⟨a4,a5,Y,Z,-,-,z⟩:=qye (o:=10) (c:=10) (n:=4) (x:=6) (y:=0) (sg:=1) (j:=0) (h:=h) (pd:=true) (bad:=false) (lb:=l) ⟨by decide,by decide⟩ U tb (zjy (la:=t) (j:=0) (k:=⟨1,1,false,0+1,0,false,false,true⟩) ⟨by decide,by decide⟩ (qex 1) (qh8 1) q U (by decide));have W:=Bnd.of i;have M:=i.mu;have F:=qqh qoc (N:=m1+1+qnw.mu) (by omega) z (by rw[←D];exact W) ⟨rfl,rfl,qx2 (.inr (by kernel_rfl)),qx2 (.inr (by kernel_rfl))⟩;rw[←D] at F;refine⟨by rw[C],by rw[C];rfl,g,by rw[f1],q9d (m:=⟨4,3,0,0,qb4 1,0,0⟩) (ms:=[]) (by rw[D];rfl),by rw[F];rfl,by rw[F];rfl,⟨m1,O,by omega⟩,⟨m1+1,i,by omega⟩⟩
attribute [local go_sem ↓ high] zy zz z7
attribute [local go_sem] qb2 qcb qci zb
section
variable {w0 w:World}{p:Nat}{g:Nat→Nat}{K:Kon}{n:Nat}{P:Pr}{J:Pr→Prop}
end
end Go.Proofs.YthnohmjbbeahmaaGreatDoor
namespace Go.Proofs.YthnohmjbbeahmaaGreatDoor
open Go.RowKit
attribute [local go_sem ↓ high] qab qan qar qaw zy zz z7 qaa
attribute [local go_sem] qcr qde qdn zb qb2 qcb qci qbi
section
variable {w0 w:World}{p:Nat}{g:Nat→Nat}{P:Pr}
end
end Go.Proofs.YthnohmjbbeahmaaGreatDoor
namespace Go.Proofs.YthnohmjbbeahmaaGreatDoor
open Go.RowKit
attribute [local go_sem ↓ high] qab qan qar qaw zy zz z7 qaa qd3
attribute [local go_sem] qcr qde qdn zb qb2 qcb qci qbi qlg
section
variable {w0 w:World}{p:Nat}{g:Nat→Nat}{P:Pr}{Ks:List Kp}{k:Nat}
end
section
variable {w0 w:World}{p:Nat}{g:Nat→Nat}{P:Pr}
end
end Go.Proofs.YthnohmjbbeahmaaGreatDoor
namespace Go.Proofs.YthnohmjbbeahmaaGreatDoor
open Go.RowKit
section
variable {w0 w:World}{p:Nat}{g:Nat→Nat}{K:Kon}{n:Nat}{P:Pr}
end
def q2d(w:World)(v:Value)(xs:List ActV):Prop:=(∃a c,v = .slice a 0 c∧xs=[])∨∃g off cap,v = .slice (some ⟨g,off,none⟩) xs.length cap∧∀i x,xs[i]? = some x→zu w g (off+i*44) 44=some x.cells.toArray
theorem q2d.new{w w':World}{v:Value}{xs:List ActV}(h:q2d w v xs)(u:qq w w'):q2d w' v xs:=by
 rcases h with h | ⟨g,off,cap,e,h⟩
 ·exact .inl h
 ·exact .inr ⟨g,off,cap,e,fun i x l=>qa6 (h i x l) u (fun h=>h)⟩
theorem q2d.slice{w:World}{v:Value}{xs:List ActV}(h:q2d w v xs):∃a c,v = .slice a xs.length c:=by
 rcases h with ⟨_,_,rfl,rfl⟩ | ⟨g,off,cap,rfl,_⟩
 ·exact⟨_,_,rfl⟩
 ·exact⟨_,_,rfl⟩
theorem q2d.at{w:World}{a:Option Addr}{n c:Nat}{xs:List ActV}(h:q2d w (.slice a n c) xs){i:Nat}{x:ActV}(l:xs[i]? = some x):∃g off,a=some ⟨g,off,none⟩∧zu w g (off+i*44) 44=some x.cells.toArray:=by
 rcases h with ⟨_,_,e,rfl⟩ | ⟨g,off,cap,e,h⟩
 ·simp at l
 ·cases e;exact⟨g,off,rfl,h i x l⟩
noncomputable def Pr.acts(P:Pr)(xs:List ActV):Pr:=xs.foldl Pr.does P
def qve:List Leaf:= .int .u64 :: .int .u64::(List.replicate 32 (.int .u8)++[.int .i64])
theorem qz2{x:Htlc}(h:HtlcOk x):qda qve (qz x):=by
 have e:∀ {n:Int},0≤n∧n≤18446744073709551615→(Lit.int .u64 n).wf=true:=fun h=>by
  simp[Lit.wf,IntKind.min,IntKind.max,IntKind.signed,IntKind.bits];omega
 have i:(Lit.int .i64 x.expiry).wf=true:=by
  have:=h.expiry;simp[Lit.wf,IntKind.min,IntKind.max,IntKind.signed,IntKind.bits];omega
 refine⟨_,_,rfl,⟨_,rfl,e h.id⟩,_,_,rfl,⟨_,rfl,e h.amount⟩,qda.app ?_ ⟨_,_,rfl,⟨_,rfl,i⟩,rfl⟩⟩;have:=qni .u8 x.hash.toList fun n l=>q6k (h.hash n l)
 simpa using this
theorem Tryz.flatHtl:qcp Tryz.prog 5 54=some qve:=by kernel_rfl
theorem Tryz.eqHtl:eqB Tryz.prog 5 54=true:=by kernel_rfl
theorem Tryz.aggHtl:qht Tryz.prog 54=true:=by kernel_rfl
def eqHtl(x y:Value):Sem Value:=binOp .eql 54 x y
theorem qzw(x y:Value):binOp .eql 54 x y=eqHtl x y:=rfl
noncomputable def q3i(x y:Htlc):Bool:=@decide (qz x=qz y) (Classical.propDecidable _)
theorem zii{x y:Htlc}(i:HtlcOk x)(l:HtlcOk y)(w:World):(eqHtl (.agg (qz x).toArray) (.agg (qz y).toArray)).run Tryz.prog w = .ok (.bool (q3i x y)) w :=
 qko 5 (by decide) Tryz.eqHtl Tryz.flatHtl Tryz.aggHtl (qz2 i) (qz2 l) _ (by unfold q3i;exact @decide_eq_true_iff _ (Classical.propDecidable _)) w
theorem q38{a b:Ch}(h:Quiet a b){y:Live}(l:y∈b.xs):y.state=4:=by
 obtain⟨x,i,rfl⟩:=List.mem_map.1 (h.mir.mem_iff.1 l);exact(h.four x i).1
section
variable {P:Pr}(h:Quiet P.a P.b)
include h
theorem Quiet.loc1:(P.en 1).loc=(P.en 0).rem:=h.rem.symm
theorem Quiet.rem1:(P.en 1).rem=(P.en 0).loc:=h.loc.symm
theorem Quiet.len1:(P.en 1).xs.length=(P.en 0).xs.length:=by
 have:=h.mir.length_eq;rw[List.length_map] at this;exact this
theorem Quiet.sig1:(P.en 1).k.signed=(P.en 0).k.heard:=h.sba
end
section
variable {w0 w:World}{p:Nat}{g:Nat→Nat}{P:Pr}{Ks:List Kp}{k:Nat}
def qkv(w:World)(a:Option Addr)(xs:List Live):Prop:=∀(i:Nat) (x:Live),xs[i]? = some x→∃b,a=some ⟨b,0,none⟩∧zu w b (i*38) 38=some (qk x).toArray
theorem qkv.new{w w':World}{a:Option Addr}{xs:List Live}(h:qkv w a xs)(u:qq w w'):qkv w' a xs:=fun i x l=>by
 obtain⟨b,e,m⟩:=h i x l;exact⟨b,e,qa6 m u (fun h=>h)⟩
theorem qkv.row{w:World}{a:Option Addr}{xs:List Live}{i:Nat}{x:Live}(h:qkv w a xs)(m:xs[i]? = some x):∃b,a=some ⟨b,0,none⟩∧zu w b (i*38) 35=some (qz x.h).toArray∧w.cell? ⟨b,i*38,none⟩=some (.int .u64 x.h.id)∧w.cell? ⟨b,i*38+35,none⟩=some (.bool x.own)∧w.cell? ⟨b,i*38+36,none⟩=some (.int .i64 x.state):=by
 obtain⟨b,e,l⟩:=h i x m;refine⟨b,e,?_,?_,?_,?_⟩
 ·have:=qpm l 0 35 (by decide);rw[Nat.add_zero] at this;rw[this];congr 1;apply Array.ext';rw[Array.toList_extract];show ((qk x).take (0+35)).drop 0=qz x.h;unfold qk;rw[List.drop_zero,List.take_append_of_le_length (by rw[qbj];decide),List.take_of_length_le (by rw[qbj];decide)]
 ·have:=(qfq l).2 0 (by decide);rw[Nat.add_zero] at this;exact this
 ·rw[(qfq l).2 35 (by decide),List.getElem?_toArray];exact qim x
 ·rw[(qfq l).2 36 (by decide),List.getElem?_toArray];exact qgm x
end
section
variable {w0 w:World}{p:Nat}{S:Nat→Prop}{P:Pr}{g:Nat→Nat}{k:Nat}
theorem qm9(m:Tb w0)(H:DuG w0 w p S P g)(o:k<2):Calls Tryz.prog 19 #[.pointer (some ⟨g k,0,none⟩)] w (qbf (.agg #[.int .u64 (P.en k).loc,.int .u64 (P.en k).rem]) w):=by
 obtain⟨i,l,-⟩:=H.opE m o;exact q6s _ i _ w l
theorem qzr(H:DuG w0 w p S P g)(i:k<2):Calls Tryz.prog 18 #[.pointer (some ⟨p,0,none⟩),.int .i64 (k:Int)] w (qch (.pointer (some ⟨g k,0,none⟩)) w):=by
 obtain⟨T,u,h⟩:=H;exact qmc h (k:Int) k (ql3 i)
end
theorem zc4{w:World}{K:Kon}{n:Nat}{Q:Pr}(x:Tb w)(o:K.Ok)(D:n<59000)(m:PInv K n Q)(N ex:Int)(i:List Int)(v:i.length=32)(t:qa7 i)(q:0≤N∧N<18446744073709551616)(C : -9223372036854775808≤ex∧ex≤9223372036854775807)(r:Ch × MsgV × Int)(z:(Q.en 0).offer N (qcl i) ex=r) :
  ∀(W:World) (p:Nat) (S:Nat→Prop) (_:DuD w W p S Q),Calls Tryz.prog 10 #[.pointer (some ⟨p,0,none⟩),.int .i64 0,.int .u64 N,.agg (qy i).toArray,.int .i64 ex] W fun e w'=>e = .returned (.tuple #[.int .u64 (qox r).id,.int .i64 r.2.2])∧DSt w W p S w' (Q.act 0 r):=by
 subst z
 intro W p S h
 have y:=m.few
 have l:=m.end o (by omega) (k:=0) (by decide)
 exact qna x h 0 0 rfl N ex i v t q C ⟨by have:=l.news;omega,by have:=l.xs;omega⟩ (m.offer o (by omega) (k:=0) (by decide) (N:=N) (ex:=ex) (hv:=qcl i) q.1 (by rw[qeh v];exact t)).2 (by show Q.wb.length<_;omega)
theorem zbq{w:World}{K:Kon}{n:Nat}{Q:Pr}(t:Tb w)(m:K.Ok)(z:n<59000)(i:PInv K n Q)(id:Int)(q:List Int)(o:q.length=32)(v:qa7 q)(r:Ch × MsgV × Int)(y:(Q.en 1).fulfill id q=r) :
  ∀(W:World) (p:Nat) (S:Nat→Prop) (_:DuD w W p S Q),Calls Tryz.prog 15 #[.pointer (some ⟨p,0,none⟩),.int .i64 1,.int .u64 id,.agg (qy q).toArray] W fun e w'=>e = .returned (.int .i64 r.2.2)∧DSt w W p S w' (Q.act 1 r):=by
 subst y
 intro W p S h
 have x:=i.few
 have l:=i.end m (by omega) (k:=1) (by decide)
 exact qn4 t h 1 1 rfl id q o (by have:=l.news;omega) (i.fulfill m (k:=1) (by decide) id q o v).2 (by show Q.wa.length<_;omega)
set_option maxRecDepth 100000 in
set_option maxHeartbeats 4000000 in
theorem qit(w:World)(y:Tb w):Calls Tryz.prog 8 #[] w (qbf (.bool true) w):=by
 obtain⟨s1,s2,X,s4,s5,s6,s7,s8,s9⟩:=q1p;have l:=zc4 y qoc (n:=0) (by decide) (qtb (o:=10) (c:=10) (by decide) ⟨by decide,by decide,by decide⟩) 4 5 (ofI (qb4 1)) (qlx _) (qgt _) ⟨by decide,by decide⟩ ⟨by decide,by decide⟩ qmt rfl;rw[s1,s2,show (qek 10 10).act 0 qmt=qnv from rfl] at l;have D:=X.mu;have F:=fun(W:World) (p:Nat) (S:Nat→Prop) (h:DuD w W p S qnv)=>qhk y qoc (N:=1+qnv.mu) (by omega) h (Bnd.of X)
 obtain⟨n8,i8,j8⟩:=s8;have i:=zbq y qoc (n:=n8) (by omega) i8 0 (qb4 1) (qex _) (qh8 _) qv0 rfl;rw[s4,show qnv.restD.act 1 qv0=qnw from rfl] at i;have I:=fun(W:World) (p:Nat) (S:Nat→Prop) (h:DuD w W p S qnw)=>qhk y qoc (N:=1200) (by omega) h s9
 have t:=fun(W:World) (p:Nat) (S:Nat→Prop) (g:Nat→Nat) (h:DuG w W p S qnw.restD g)=>qm9 y h (k:=0) (by decide)
 rw[s6,s7] at t;have hn:(0:Int)<(qnw.restN:Int):=by omega
 have a4:∀W,(binOp .eql 42 (.agg #[.int .u64 6,.int .u64 4]) (.agg #[.int .u64 6,.int .u64 4])).run Tryz.prog W = .ok (.bool true) W:=fun W=>by kernel_rfl
 have v:=fun W=>qf0 1 ⟨by decide,by decide⟩ W
 have E:=fun W=>qpl (qb4 1) (qex _) W
 generalize qnw.restN=rn at *
 generalize (rn:Int)=rz at *
 have a5:decide ((0:Int)<rz)=true:=decide_eq_true hn;clear hn;generalize qnw.restD=Q2 at *
 generalize qnw=P2 at *
 generalize qnv.restN=a6 at *
 generalize qnv.restD=Q1 at *
 generalize qnv=P1 at *
 generalize ofI (qb4 1)=HO at *
 generalize qb4 1=H1 at *
 clear s1 s2 X s4 s5 s6 s7 s9 D i8 j8;go_enter Tryz.func8,Tryz.ntmps8;go_wp2_with (with_reducible first|(first|refine' zi (qg ?_) ?_|refine' zj (qg ?_) ?_);rotate_left|refine' zk (qg ?_)|rfl|apply tn|refine' zl ?_);refine(qer 10 10 ⟨by decide,by decide⟩ ⟨by decide,by decide⟩ w).mono ?_;rintro e w1 (⟨p,rfl,-,S,hD⟩ | ⟨-,T,-⟩)
 case inr=>exact absurd ⟨by decide,by decide,by decide⟩ T
 have H:=qb hD;clear hD;go_wp2_with (with_reducible first|(first|refine' zi (qg ?_) ?_|refine' zj (qg ?_) ?_);rotate_left|refine' zk (qg ?_)|rfl|apply tn|refine' zl ?_);refine(v _).mono ?_;rintro e w2 ⟨rfl,n2⟩;have M:=qb ((qa H).new n2);clear H n2;go_wp2_with (with_reducible first|(first|refine' zi (qg ?_) ?_|refine' zj (qg ?_) ?_);rotate_left|refine' zk (qg ?_)|rfl|apply tn|refine' zl ?_);refine(E _).mono ?_;rintro e w3 ⟨rfl,U⟩;have J:=l w3 p S ((qa M).new U);have HB:=qb ((qa M).new U);clear M U E l;go_wp2_with (with_reducible first|(first|refine' zi (qg ?_) ?_|refine' zj (qg ?_) ?_);rotate_left|refine' zk (qg ?_)|rfl|apply tn|refine' zl ?_);refine J.mono ?_;rintro e w4 ⟨rfl,h4⟩;have m:=F w4 p _ h4.1;clear J h4 HB F;go_wp2_with (with_reducible first|(first|refine' zi (qg ?_) ?_|refine' zj (qg ?_) ?_);rotate_left|refine' zk (qg ?_)|rfl|apply tn|refine' zl ?_);refine m.mono ?_;rintro e w5 ⟨rfl,h5⟩;have HC:=qb h5.1;clear m h5;go_wp2_with (with_reducible first|(first|refine' zi (qg ?_) ?_|refine' zj (qg ?_) ?_);rotate_left|refine' zk (qg ?_)|rfl|apply tn|refine' zl ?_);refine(v _).mono ?_;rintro e w6 ⟨rfl,n6⟩;have J:=i w6 p _ ((qa HC).new n6);clear n6 HC i v;go_wp2_with (with_reducible first|(first|refine' zi (qg ?_) ?_|refine' zj (qg ?_) ?_);rotate_left|refine' zk (qg ?_)|rfl|apply tn|refine' zl ?_);refine J.mono ?_;rintro e w7 ⟨rfl,h7⟩;have m:=I w7 p _ h7.1;clear J h7 I;go_wp2_with (with_reducible first|(first|refine' zi (qg ?_) ?_|refine' zj (qg ?_) ?_);rotate_left|refine' zk (qg ?_)|rfl|apply tn|refine' zl ?_)
 refine m.mono ?_;rintro e Z ⟨rfl,h8⟩;obtain⟨g,R⟩:=h8.1.toG;have O:=qb R;have q:=fun(W:World) (n:qq Z W)=>qzr (R.new n) (k:=0) (by decide)
 simp only[Int.natCast_zero] at q;clear m h8 R;have z:=q Z (Upd.refl _ _);go_wp2_with (with_reducible first|(first|refine' zi (qg ?_) ?_|refine' zj (qg ?_) ?_);rotate_left|refine' zk (qg ?_)|rfl|apply tn|refine' zl ?_);refine z.mono ?_;rintro e w9 ⟨rfl,q9⟩;have V:qq Z w9:=q9.upd _;have C:=q w9 V;have HN:=qb V;clear z q9 V;go_wp2_with (with_reducible first|(first|refine' zi (qg ?_) ?_|refine' zj (qg ?_) ?_);rotate_left|refine' zk (qg ?_)|rfl|apply tn|refine' zl ?_);refine C.mono ?_;rintro e Y ⟨rfl,L⟩;have x:=(qa HN).trans (L.upd _);have hb:=t Y p _ g ((qa O).new x);have HM:=qb ((qa O).new x);clear C L x HN q O t;go_wp2_with (with_reducible first|(first|refine' zi (qg ?_) ?_|refine' zj (qg ?_) ?_);rotate_left|refine' zk (qg ?_)|rfl|apply tn|refine' zl ?_);refine hb.mono ?_;rintro e a7 ⟨rfl,K⟩;have HF:=qb ((qa HM).n.trans K);clear hb K HM;go_wp2_with (with_reducible first|(first|refine' zi (qg ?_) ?_|refine' zj (qg ?_) ?_);rotate_left|refine' zk (qg ?_)|rfl|apply tn|refine' zl ?_);go_ret;exact⟨rfl,qa HF⟩
theorem Tryz.infoAc14:(Tryz.prog.info? 50).map (·.size)=some 8:=by kernel_rfl
def zb8(x:Value):Sem Value:=Instr.loadAt 50 x
theorem qhc(x:Value):Instr.loadAt 50 x=zb8 x:=rfl
theorem qq9(b o:Nat)(w:World):(zb8 (.pointer (some ⟨b,o,none⟩))).run Tryz.prog w=match zu w b o 8 with | some A=> .ok (.agg A) w | none=>qdz Tryz.prog 50 w b o :=
 z6 50 8 _ Tryz.underlying50 rfl Tryz.infoAc14 b o w
def qg6(w:World)(v:Value)(xs:List ActD):Prop:=(∃a c,v = .slice a 0 c∧xs=[])∨∃g off cap,v = .slice (some ⟨g,off,none⟩) xs.length cap∧∀i x,xs[i]? = some x→zu w g (off+i*8) 8=some x.cells.toArray
theorem qg6.new{w w':World}{v:Value}{xs:List ActD}(h:qg6 w v xs)(u:qq w w'):qg6 w' v xs:=by
 rcases h with h | ⟨g,off,cap,e,h⟩
 ·exact .inl h
 ·exact .inr ⟨g,off,cap,e,fun i x l=>qa6 (h i x l) u (fun h=>h)⟩
theorem qg6.slice{w:World}{v:Value}{xs:List ActD}(h:qg6 w v xs):∃a c,v = .slice a xs.length c:=by
 rcases h with ⟨_,_,rfl,rfl⟩ | ⟨g,off,cap,rfl,_⟩
 ·exact⟨_,_,rfl⟩
 ·exact⟨_,_,rfl⟩
theorem qg6.at{w:World}{a:Option Addr}{n c:Nat}{xs:List ActD}(h:qg6 w (.slice a n c) xs){i:Nat}{x:ActD}(l:xs[i]? = some x):∃g off,a=some ⟨g,off,none⟩∧zu w g (off+i*8) 8=some x.cells.toArray:=by
 rcases h with ⟨_,_,e,rfl⟩ | ⟨g,off,cap,e,h⟩
 ·cases l
 ·cases e;exact⟨g,off,rfl,h i x l⟩
theorem qkv.amount{w:World}{a:Option Addr}{xs:List Live}{i:Nat}{x:Live}(h:qkv w a xs)(l:xs[i]? = some x):∃b,a=some ⟨b,0,none⟩∧w.cell? ⟨b,i*38+1,none⟩=some (.int .u64 x.h.amount):=by
 obtain⟨b,e,m⟩:=h i x l;refine⟨b,e,?_⟩;rw[(qfq m).2 1 (by decide),List.getElem?_toArray];exact qxw x
section
variable {w0 w w':World}{p:Nat}{S:Nat→Prop}{P:Pr}{g:Nat→Nat}{k:Nat}
theorem qxc(t:Tb w0)(H:DuG w0 w p S P g)(y:k<2):Calls Tryz.prog 21 #[.pointer (some ⟨g k,0,none⟩)] w fun e w'=>∃a c,e = .returned (.slice a (P.en k).xs.length c)∧qq w w'∧qkv w' a (P.en k).xs:=by
 obtain⟨m,q,-⟩:=H.opE t y;refine(qpi _ m _ w q).mono ?_;rintro e w' ⟨u,rfl,n,h | ⟨b,cap,rfl,z,v⟩⟩
 ·obtain⟨a,c,rfl,o⟩:=h;rw[o];exact⟨a,c,rfl,n,fun i x l=>by cases l⟩
 ·refine⟨_,cap,rfl,n,fun i x l=>⟨b,rfl,?_⟩⟩;have:=v.row l;rwa [Nat.zero_add] at this
theorem DuG.liveOk(h:DuG w0 w p S P g)(l:k<2):(∀x∈(P.en k).xs,LiveOk x)∧(0≤(P.en k).loc∧(P.en k).loc<18446744073709551616)∧(0≤(P.en k).rem∧(P.en k).rem<18446744073709551616):=by
 obtain⟨T,u,h⟩:=h;obtain⟨o,nv,m,i⟩:=h.en k l;exact⟨i.ok.xs,i.ok.loc,i.ok.rem⟩
def DuW(w0 w:World)(p:Nat)(P:Pr):Prop:=∃S,DuD w0 w p S P
theorem DuW.n(h:DuW w0 w p P):qq w0 w:=by
 obtain⟨S,h⟩:=h;exact h.n
theorem DuW.new(h:DuW w0 w p P)(n:qq w w'):DuW w0 w' p P:=by
 obtain⟨S,h⟩:=h;exact⟨S,h.new n⟩
theorem DuW.getG(h:DuW w0 w p P):∃S g,DuG w0 w p S P g:=by
 obtain⟨S,h⟩:=h;obtain⟨g,i⟩:=h.toG;exact⟨S,g,i⟩
theorem DuG.toW(h:DuG w0 w p S P g):DuW w0 w p P:=⟨S,h.toD⟩
section
variable {K:Kon}{n:Nat}
theorem zer(o:Tb w0)(m:K.Ok)(q:n<59000)(l:PInv K n P)(h:DuW w0 w p P)(x:ActD)(t:x.Ok) :
  Calls Tryz.prog 20 #[.pointer (some ⟨p,0,none⟩),.agg x.cells.toArray] w fun e w'=>e = .returned (.int .i64 0)∧DuW w0 w' p (P.doesD x):=by
 obtain⟨S,h⟩:=h
 exact(quy o m q l h x t).mono fun e w' i=>⟨i.1,_,i.2.1⟩
theorem zhz(o:Tb w0)(m:K.Ok)(t:n<59000)(i:PInv K n P)(h:DuW w0 w p P) :
  Calls Tryz.prog 13 #[.pointer (some ⟨p,0,none⟩)] w fun e w'=>e = .returned (.int .i64 (P.restN:Int))∧DuW w0 w' p P.restD:=by
 obtain⟨S,h⟩:=h
 have q:=i.mu
 exact(qhk o m (N:=n+P.mu) (by omega) h (Bnd.of i)).mono fun e w' l=>⟨l.1,_,l.2.1⟩
theorem q19(h:DuW w0 w p P)(i:k<2):Calls Tryz.prog 18 #[.pointer (some ⟨p,0,none⟩),.int .i64 (k:Int)] w fun e w'=>∃S g,e = .returned (.pointer (some ⟨g k,0,none⟩))∧qq w w'∧DuG w0 w' p S P g:=by
 obtain⟨S,g,h⟩:=h.getG;refine(qzr h i).mono ?_;rintro e w' ⟨rfl,q⟩;exact⟨S,g,rfl,q.upd _,h.new (q.upd _)⟩
theorem zkg(h:DuW w0 w p P)(l:k<2)(m:P.Rest):Calls Tryz.prog 22 #[.pointer (some ⟨p,0,none⟩),.int .i64 (k:Int)] w fun e w'=>(∃a c,e = .returned (.slice a 0 c))∧DuW w0 w' p P:=by
 obtain⟨S,h⟩:=h;exact(qpc h (k:Int) k (ql3 l) (m.way l)).mono fun e w' i=>⟨i.1,S,h.new i.2⟩
theorem q9e(v:n<65535)(q:PInv K n P)(t:P.Rest)(o:k<2):(P.en k).sign.2.2=5:=by
 have i:=t.err o;have x:=(q.side o).2;rw[qjr];unfold qa0 at i ⊢;by_cases l:(P.en k).k.awaits=true
 ·rw[if_pos l]
 ·rw[if_neg l] at i ⊢;by_cases m:zv 1 (P.en k).xs=false
  ·rw[if_pos m]
  ·rw[if_neg m,if_neg (by omega)] at i;exact absurd rfl i
theorem q40(v:Tb w0)(m:K.Ok)(x:n<59000)(l:PInv K n P)(h:DuW w0 w p P)(i:k<2)(o:P.Rest) :
  Calls Tryz.prog 16 #[.pointer (some ⟨p,0,none⟩),.int .i64 (k:Int)] w fun e w'=>e = .returned (.int .i64 5)∧DuW w0 w' p P:=by
 obtain⟨S,h⟩:=h
 have t:=qpb v h (k:Int) k (ql3 i) ((l.end m (by omega) i).sign m (by omega)) (l.sign m i).2 (by rw[o.way (show 1-k<2 by omega)];decide)
 rw[q9e (by omega) l o i,show P.act k (P.en k).sign=P from qnu o i] at t
 exact t.mono fun e w' q=>⟨q.1,_,q.2.1⟩
theorem q2a(h:DuW w0 w p P)(l:k<2)(m:P.Rest) :
  Calls Tryz.prog 23 #[.pointer (some ⟨p,0,none⟩),.int .i64 (k:Int)] w fun e w'=>e = .returned (.int .i64 3)∧DuW w0 w' p P:=by
 obtain⟨S,h⟩:=h
 exact(qp1 h (k:Int) k (ql3 l) (m.way l)).mono fun e w' i=>⟨i.1,_,i.2.1⟩
end
end
end Go.Proofs.YthnohmjbbeahmaaGreatDoor
