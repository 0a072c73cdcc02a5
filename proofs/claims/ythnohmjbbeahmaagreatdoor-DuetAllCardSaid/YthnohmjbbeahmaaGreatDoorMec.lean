/-
  Law 14: one payment, plain: offered, fulfilled.
-/
import Derived.Test.YthnohmjbbeahmaaGreatDoorMde
import Derived.Test.YthnohmjbbeahmaaGreatDoorMea
import Derived.Test.YthnohmjbbeahmaaGreatDoorMdc
import Derived.Test.YthnohmjbbeahmaaGreatDoorMcj
import Derived.Test.YthnohmjbbeahmaaGreatDoorMeb
set_option linter.unusedVariables false
set_option linter.unusedSimpArgs false
namespace Go.Proofs.YthnohmjbbeahmaaGreatDoor
open Go.RowKit
section
variable {o c n x y j:Int}{h:Vector Int 32}{k:CountsV}{sa sb:List KeptV}{nw la lb:List MsgV}{q:List Int}
theorem q5c:qbf false j [itm n j h false 4 false]=some (0,itm n j h false 4 false):=by
 unfold qbf;have:qc8 false j (itm n j h false 4 false)=true:=by simp[qc8,itm]
 simp[List.findIdx?_cons,this]
theorem q58(g:qby q h.toList=true):(eB o c x y sb [] lb k [itm n j h false 4 false]).fulfill j q=(eB o c x y sb [⟨4,3,j,0,q,0,0⟩] lb k [itm n j h false 5 true],⟨4,3,j,0,q,0,0⟩,0):=by
 rw[qkz (c:=eB o c x y sb [] lb k [itm n j h false 4 false]) q5c,if_pos (by exact g)];rfl
theorem q7b(i:1≤n∧n≤x)(g:0≤j∧j≤1000){sg hd nt:Int}{aw f2 rv:Bool} :
  (eA o c x y sa [] la ⟨sg,hd,aw,j,nt,false,f2,rv⟩ []).offer n h 5=(eA o c (x-n) y sa [pM n j h] la ⟨sg,hd,aw,j+1,nt,false,f2,rv⟩ [itm n j h true 0 false],pM n j h,0):=by
 have e:qa8 (eA o c x y sa [] la ⟨sg,hd,aw,j,nt,false,f2,rv⟩ []) n 5=0:=by
  unfold qa8;rw[if_neg (by show ¬(false=true);decide),if_neg (by omega),if_neg (by omega),if_neg (by show ¬(8≤0);decide),if_neg (by show ¬(x<n);omega)]
 unfold Ch.offer
 rw[if_pos e]
 have a:(eA o c x y sa [] la ⟨sg,hd,aw,j,nt,false,f2,rv⟩ []).offered n h 5=eA o c (x-n) y sa [] la ⟨sg,hd,aw,j+1,nt,false,f2,rv⟩ [itm n j h true 0 false]:=by
  show (Ch.mk (duA o c) ⟨sg,hd,aw,IntKind.u64.wrap (j+1),nt,false,f2,rv⟩ (x-n) y [⟨⟨j,n,h,5⟩,true,0,false⟩] sa [] la)=_;rw[qaw (by omega) (by omega)];rfl
 rw[a]
 rfl
theorem zij(i:0≤o∧o≤c)(g:c≤1125899906842624):Ch.new (duB o c)=eB o c o (c-o) (List.replicate 17 .zero) [] [] .zero []:=by
 show (Ch.mk (duB o c) .zero (IntKind.u64.wrap (c-o)) (c-IntKind.u64.wrap (c-o)) [] (List.replicate 17 .zero) [] [])=_;rw[qaw (by omega) (by omega),show c-(c-o)=o by omega];rfl
end
theorem qzf{i a:Int}(h:List Int)(g:0≤a∧a≤1125899906842624):qac ⟨3,3,i,a,h,9,0⟩=true:=by
 unfold qac;show (if (9:Int)<0∨1073741824<(9:Int)∨(0:Int)<0∨65535<(0:Int)∨1125899906842624<a then false else decide (qf5 _ _=qeo 3))=true;rw[if_neg (by omega)];kernel_rfl
section
variable (n j:Int)(h:Vector Int 32)
def itn(g:Bool)(st:Int)(pd:Bool):Live:=⟨⟨j,n,h,9⟩,g,st,pd⟩
def pN:MsgV:=⟨3,3,j,n,h.toList,9,0⟩
end
section
variable {o c n x y sg j no nt hd:Int}{h:Vector Int 32}{ra rb pd aw f1 f2:Bool}{sa sb:List KeptV}{nw la lb:List MsgV}{k:CountsV}{L L1 L2:List Live}{z:Live}{q:List Int}
theorem qan{st:Int}{l:Bool}(g:st≠9):∀z∈[itn n j h l st pd],z.state≠9:=by
 intro z i;rw[List.mem_singleton.1 i];exact g
theorem zgs(C:1≤n∧n≤1125899906842624)(w:0≤j∧j≤1000)(D:0≤x)(m:∀b∈h.toList,0≤b∧b≤255)(g:qaj (zn 5) sb)(t:hd≤65535) :
  HearSt (eB o c (x+n) y sb nw lb ⟨sg,hd,aw,no,j,f1,false,rb⟩ []) (pN n j h) (eB o c x y sb nw lb ⟨sg,hd,aw,no,j+1,f1,false,rb⟩ [itn n j h false 0 false]) []:=by
 refine⟨qej ⟨by decide,by decide⟩ ⟨by decide,by decide⟩ ⟨by omega,by omega⟩ ⟨by omega,by omega⟩ (by simp) m ⟨by decide,by decide⟩ ⟨by decide,by decide⟩,?_,qwj g t (bl rfl),.inl rfl,(fun l v=>by cases v),bl rfl⟩
 refine(qqf (qzf _ ⟨by omega,by omega⟩) rfl rfl).trans ?_
 have e:qab (eB o c (x+n) y sb nw lb ⟨sg,hd,aw,no,j,f1,false,rb⟩ []) (pN n j h)=0:=by
  unfold qab;rw[if_neg (by show ¬(false=true);decide),if_neg (by show ¬(n=0);omega),if_neg (by show ¬(j≠j);omega),if_neg (by show ¬((9:Int)=0);decide),if_neg (by show ¬(8≤0);decide),if_neg (by show ¬(x+n<n);omega)]
 have a:(eB o c (x+n) y sb nw lb ⟨sg,hd,aw,no,j,f1,false,rb⟩ []).added (pN n j h)=eB o c x y sb nw lb ⟨sg,hd,aw,no,j+1,f1,false,rb⟩ [itn n j h false 0 false]:=by
  show (Ch.mk (duB o c) ⟨sg,hd,aw,no,IntKind.u64.wrap (j+1),f1,false,rb⟩ y (x+n-n) [⟨⟨j,n,qbm h.toList,9⟩,false,0,false⟩] sb nw lb)=_;rw[qh3,qaw (by omega) (by omega),show x+n-n=x by omega];rfl
 have i:(eB o c (x+n) y sb nw lb ⟨sg,hd,aw,no,j,f1,false,rb⟩ []).hearAdd (pN n j h)=(eB o c x y sb nw lb ⟨sg,hd,aw,no,j+1,f1,false,rb⟩ [itn n j h false 0 false],0):=by
  unfold Ch.hearAdd;rw[if_pos e,a]
 exact congrArg (fun p:Ch × Int=>(p.1,([]:List MsgV),p.2)) i
theorem zgr(C:1≤n∧n≤1125899906842624)(w:0≤j∧j≤1000)(D:0≤x)(m:∀b∈h.toList,0≤b∧b≤255)(g:qaj (zn 6) sa)(t:hd≤65535) :
  HearSt (eA o c y (x+n) sa nw la ⟨sg,hd,aw,no,j,f1,false,ra⟩ []) (pN n j h) (eA o c y x sa nw la ⟨sg,hd,aw,no,j+1,f1,false,ra⟩ [itn n j h false 0 false]) []:=by
 refine⟨qej ⟨by decide,by decide⟩ ⟨by decide,by decide⟩ ⟨by omega,by omega⟩ ⟨by omega,by omega⟩ (by simp) m ⟨by decide,by decide⟩ ⟨by decide,by decide⟩,?_,qwi g t (bl rfl),.inl rfl,(fun l v=>by cases v),bl rfl⟩
 refine(qqf (qzf _ ⟨by omega,by omega⟩) rfl rfl).trans ?_
 have e:qab (eA o c y (x+n) sa nw la ⟨sg,hd,aw,no,j,f1,false,ra⟩ []) (pN n j h)=0:=by
  unfold qab;rw[if_neg (by show ¬(false=true);decide),if_neg (by show ¬(n=0);omega),if_neg (by show ¬(j≠j);omega),if_neg (by show ¬((9:Int)=0);decide),if_neg (by show ¬(8≤0);decide),if_neg (by show ¬(x+n<n);omega)]
 have a:(eA o c y (x+n) sa nw la ⟨sg,hd,aw,no,j,f1,false,ra⟩ []).added (pN n j h)=eA o c y x sa nw la ⟨sg,hd,aw,no,j+1,f1,false,ra⟩ [itn n j h false 0 false]:=by
  show (Ch.mk (duA o c) ⟨sg,hd,aw,no,IntKind.u64.wrap (j+1),f1,false,ra⟩ y (x+n-n) [⟨⟨j,n,qbm h.toList,9⟩,false,0,false⟩] sa nw la)=_;rw[qh3,qaw (by omega) (by omega),show x+n-n=x by omega];rfl
 have i:(eA o c y (x+n) sa nw la ⟨sg,hd,aw,no,j,f1,false,ra⟩ []).hearAdd (pN n j h)=(eA o c y x sa nw la ⟨sg,hd,aw,no,j+1,f1,false,ra⟩ [itn n j h false 0 false],0):=by
  unfold Ch.hearAdd;rw[if_pos e,a]
 exact congrArg (fun p:Ch × Int=>(p.1,([]:List MsgV),p.2)) i
theorem q14{xs:List Live}(i:0≤sg∧sg≤1000)(m:qaj (zn 5) sb)(w:L.length≤16)(C:zl 3 L=true)(t:qo 3 L=xs.map qdw)(g:∀z∈xs.map qdw,z.state≠9)(v:qo 4 (xs.map qdw)=[itn n j h false 9 pd]) :
  HearSt (eB o c x y sb nw lb ⟨hd,sg,aw,no,nt,f1,f2,rb⟩ L) (sgA x y sg xs) (eB o c (qau (!pd) n x) (qau pd n y) sb nw lb ⟨hd,sg+1,aw,no,nt,f1,f2,true⟩ []) [rvB sg]:=by
 refine⟨qxi _ _ _ _ i,?_,qwj m (by show sg≤_;omega) w,.inr (.inr (.inr (.inl rfl))),(fun l D=>by rw[List.mem_singleton.1 D];exact qo1 _ i),bl rfl⟩
 refine(qlr (qnp _ ⟨by omega,by omega⟩) rfl rfl).trans ?_
 refine(qru i.1 C t g v rfl (qey _ _ _ _ _ _).symm).trans ?_
 cases pd<;>rfl
theorem qrt{xs:List Live}(i:0≤sg∧sg≤1000)(m:qaj (zn 6) sa)(w:L.length≤16)(C:zl 3 L=true)(t:qo 3 L=xs.map qdw)(g:∀z∈xs.map qdw,z.state≠9)(v:qo 4 (xs.map qdw)=[itn n j h false 9 pd]) :
  HearSt (eA o c y x sa nw la ⟨hd,sg,aw,no,nt,f1,f2,ra⟩ L) (sgB y x sg xs) (eA o c (qau pd n y) (qau (!pd) n x) sa nw la ⟨hd,sg+1,aw,no,nt,f1,f2,true⟩ []) [rvA sg]:=by
 refine⟨q3d _ _ _ _ i,?_,qwi m (by show sg≤_;omega) w,.inr (.inr (.inr (.inl rfl))),(fun l D=>by rw[List.mem_singleton.1 D];exact qxf _ i),bl rfl⟩
 refine(qlr (qnp _ ⟨by omega,by omega⟩) rfl rfl).trans ?_
 refine(qru i.1 C t g v rfl (qey _ _ _ _ _ _).symm).trans ?_
 cases pd<;>rfl
theorem q13(C:0≤sg∧sg≤1000)(g:qaj (zn 6) sa)(v:hd≤65535)(t:L.length≤16)(m:qo 2 L=[itn n j h true 9 pd]) :
  HearSt (eA o c x y sa nw la ⟨sg+1,hd,true,no,nt,f1,f2,ra⟩ L) (rvB sg) (eA o c (qau (!pd) n x) (qau pd n y) (qkl (rvB sg).hash (65535-sg) sa) nw la ⟨sg+1,hd,false,no,nt,f1,f2,ra⟩ []) []:=by
 refine⟨qo1 _ C,?_,qwi g v t,.inr (.inr (.inr (.inr (.inl rfl)))),(fun l w=>by cases w),bl rfl⟩
 refine(qls (qno _ ⟨by omega,by omega⟩) rfl rfl).trans ?_
 have e:=qrr (s:=duA o c) (hd:=hd) (no:=no) (nt:=nt) (x:=x) (y:=y) (f1:=f1) (f2:=f2) (rv:=ra) (nw:=nw) (la:=la) (ch:=3) (qos (h:=zn 6) (i:=65535-sg) (ps:=sa) (qj0 (by omega) (by omega)) g) m rfl
 refine(congrArg (fun p:Ch × Int=>(p.1,([]:List MsgV),p.2)) e).trans ?_
 cases pd<;>rfl
theorem qrq(C:0≤sg∧sg≤1000)(g:qaj (zn 5) sb)(v:hd≤65535)(t:L.length≤16)(m:qo 2 L=[itn n j h true 9 pd]) :
  HearSt (eB o c y x sb nw lb ⟨sg+1,hd,true,no,nt,f1,f2,rb⟩ L) (rvA sg) (eB o c (qau pd n y) (qau (!pd) n x) (qkl (rvA sg).hash (65535-sg) sb) nw lb ⟨sg+1,hd,false,no,nt,f1,f2,rb⟩ []) []:=by
 refine⟨qxf _ C,?_,qwj g v t,.inr (.inr (.inr (.inr (.inl rfl)))),(fun l w=>by cases w),bl rfl⟩
 refine(qls (qno _ ⟨by omega,by omega⟩) rfl rfl).trans ?_
 have e:=qrr (s:=duB o c) (hd:=hd) (no:=no) (nt:=nt) (x:=x) (y:=y) (f1:=f1) (f2:=f2) (rv:=rb) (nw:=nw) (la:=lb) (ch:=3) (qos (h:=zn 5) (i:=65535-sg) (ps:=sb) (qj0 (by omega) (by omega)) g) m rfl
 refine(congrArg (fun p:Ch × Int=>(p.1,([]:List MsgV),p.2)) e).trans ?_
 cases pd<;>rfl
theorem zgv{p:List Int}(E:0≤j∧j≤1000)(D:p.length=32)(t:qal p)(C:qby p h.toList=true)(g:qaj (zn 6) sa)(v:k.heard≤65535) :
  HearSt (eA o c x y sa nw la k [itn n j h true 4 false]) ⟨4,3,j,0,p,0,0⟩ (eA o c x y sa nw la k [itn n j h true 5 true]) []:=by
 refine⟨qej ⟨by decide,by decide⟩ ⟨by decide,by decide⟩ ⟨by omega,by omega⟩ ⟨by decide,by decide⟩ D t ⟨by decide,by decide⟩ ⟨by decide,by decide⟩,?_,qwi g v (bl rfl),.inr (.inl rfl),(fun l w=>by cases w),bl rfl⟩
 refine(qqg (qwm _ _) rfl rfl).trans ?_
 have i:qbf true j [itn n j h true 4 false]=some (0,itn n j h true 4 false):=by
  unfold qbf;have:qc8 true j (itn n j h true 4 false)=true:=by simp[qc8,itn]
  simp[List.findIdx?_cons,this]
 have e:=qfr (c:=eA o c x y sa nw la k [itn n j h true 4 false]) (m:=⟨4,3,j,0,p,0,0⟩) i
 rw[if_pos (by exact C)] at e
 rw[e]
 rfl
theorem zgw{p:List Int}(E:0≤j∧j≤1000)(D:p.length=32)(t:qal p)(C:qby p h.toList=true)(g:qaj (zn 5) sb)(v:k.heard≤65535) :
  HearSt (eB o c y x sb nw lb k [itn n j h true 4 false]) ⟨4,3,j,0,p,0,0⟩ (eB o c y x sb nw lb k [itn n j h true 5 true]) []:=by
 refine⟨qej ⟨by decide,by decide⟩ ⟨by decide,by decide⟩ ⟨by omega,by omega⟩ ⟨by decide,by decide⟩ D t ⟨by decide,by decide⟩ ⟨by decide,by decide⟩,?_,qwj g v (bl rfl),.inr (.inl rfl),(fun l w=>by cases w),bl rfl⟩
 refine(qqg (qwm _ _) rfl rfl).trans ?_
 have i:qbf true j [itn n j h true 4 false]=some (0,itn n j h true 4 false):=by
  unfold qbf;have:qc8 true j (itn n j h true 4 false)=true:=by simp[qc8,itn]
  simp[List.findIdx?_cons,this]
 have e:=qfr (c:=eB o c y x sb nw lb k [itn n j h true 4 false]) (m:=⟨4,3,j,0,p,0,0⟩) i
 rw[if_pos (by exact C)] at e
 rw[e]
 rfl
theorem zgt{r:Int}(w:0≤j∧j≤1000)(v:0≤r∧r≤65535)(g:qaj (zn 6) sa)(m:k.heard≤65535) :
  HearSt (eA o c x y sa nw la k [itn n j h true 4 false]) ⟨5,3,j,0,zv,0,r⟩ (eA o c x y sa nw la k [itn n j h true 5 false]) []:=by
 refine⟨qej ⟨by decide,by decide⟩ ⟨by decide,by decide⟩ ⟨by omega,by omega⟩ ⟨by decide,by decide⟩ qs qc6 ⟨by decide,by decide⟩ ⟨by omega,by omega⟩,?_,qwi g m (bl rfl),.inr (.inr (.inl rfl)),(fun l t=>by cases t),bl rfl⟩
 refine(qwd (q4l _ v) rfl rfl).trans ?_
 have i:qbf true j [itn n j h true 4 false]=some (0,itn n j h true 4 false):=by
  unfold qbf;have:qc8 true j (itn n j h true 4 false)=true:=by simp[qc8,itn]
  simp[List.findIdx?_cons,this]
 have e:(eA o c x y sa nw la k [itn n j h true 4 false]).hearFail ⟨5,3,j,0,zv,0,r⟩=((eA o c x y sa nw la k [itn n j h true 4 false]).removed 0 (itn n j h true 4 false) false,0):=by
  unfold Ch.hearFail;show (match qbf true j [itn n j h true 4 false] with | none=>_ | some p=>_)=_;rw[i]
 rw[e]
 rfl
theorem zgu{r:Int}(w:0≤j∧j≤1000)(v:0≤r∧r≤65535)(g:qaj (zn 5) sb)(m:k.heard≤65535) :
  HearSt (eB o c y x sb nw lb k [itn n j h true 4 false]) ⟨5,3,j,0,zv,0,r⟩ (eB o c y x sb nw lb k [itn n j h true 5 false]) []:=by
 refine⟨qej ⟨by decide,by decide⟩ ⟨by decide,by decide⟩ ⟨by omega,by omega⟩ ⟨by decide,by decide⟩ qs qc6 ⟨by decide,by decide⟩ ⟨by omega,by omega⟩,?_,qwj g m (bl rfl),.inr (.inr (.inl rfl)),(fun l t=>by cases t),bl rfl⟩
 refine(qwd (q4l _ v) rfl rfl).trans ?_
 have i:qbf true j [itn n j h true 4 false]=some (0,itn n j h true 4 false):=by
  unfold qbf;have:qc8 true j (itn n j h true 4 false)=true:=by simp[qc8,itn]
  simp[List.findIdx?_cons,this]
 have e:(eB o c y x sb nw lb k [itn n j h true 4 false]).hearFail ⟨5,3,j,0,zv,0,r⟩=((eB o c y x sb nw lb k [itn n j h true 4 false]).removed 0 (itn n j h true 4 false) false,0):=by
  unfold Ch.hearFail;show (match qbf true j [itn n j h true 4 false] with | none=>_ | some p=>_)=_;rw[i]
 rw[e]
 rfl
theorem qjm:qbf false j [itn n j h false 4 false]=some (0,itn n j h false 4 false):=by
 unfold qbf;have:qc8 false j (itn n j h false 4 false)=true:=by simp[qc8,itn]
 simp[List.findIdx?_cons,this]
theorem q1w(g:qby q h.toList=true):(eB o c x y sb [] lb k [itn n j h false 4 false]).fulfill j q=(eB o c x y sb [⟨4,3,j,0,q,0,0⟩] lb k [itn n j h false 5 true],⟨4,3,j,0,q,0,0⟩,0):=by
 rw[qkz (c:=eB o c x y sb [] lb k [itn n j h false 4 false]) qjm,if_pos (by exact g)];rfl
theorem q1v(g:qby q h.toList=true):(eA o c y x sa [] la k [itn n j h false 4 false]).fulfill j q=(eA o c y x sa [⟨4,3,j,0,q,0,0⟩] la k [itn n j h false 5 true],⟨4,3,j,0,q,0,0⟩,0):=by
 rw[qkz (c:=eA o c y x sa [] la k [itn n j h false 4 false]) qjm,if_pos (by exact g)];rfl
theorem q1o{r:Int}(g:0≤r∧r≤65535):(eB o c x y sb [] lb k [itn n j h false 4 false]).fail j r=(eB o c x y sb [⟨5,3,j,0,zv,0,r⟩] lb k [itn n j h false 5 false],⟨5,3,j,0,zv,0,r⟩,0):=by
 rw[qok (c:=eB o c x y sb [] lb k [itn n j h false 4 false]) qjm (by omega)];rfl
theorem q1n{r:Int}(g:0≤r∧r≤65535):(eA o c y x sa [] la k [itn n j h false 4 false]).fail j r=(eA o c y x sa [⟨5,3,j,0,zv,0,r⟩] la k [itn n j h false 5 false],⟨5,3,j,0,zv,0,r⟩,0):=by
 rw[qok (c:=eA o c y x sa [] la k [itn n j h false 4 false]) qjm (by omega)];rfl
theorem q2m(i:1≤n∧n≤x)(g:0≤j∧j≤1000){sg hd nt:Int}{aw f2 rv:Bool} :
  (eA o c x y sa [] la ⟨sg,hd,aw,j,nt,false,f2,rv⟩ []).offer n h 9=(eA o c (x-n) y sa [pN n j h] la ⟨sg,hd,aw,j+1,nt,false,f2,rv⟩ [itn n j h true 0 false],pN n j h,0):=by
 have e:qa8 (eA o c x y sa [] la ⟨sg,hd,aw,j,nt,false,f2,rv⟩ []) n 9=0:=by
  unfold qa8;rw[if_neg (by show ¬(false=true);decide),if_neg (by omega),if_neg (by omega),if_neg (by show ¬(8≤0);decide),if_neg (by show ¬(x<n);omega)]
 unfold Ch.offer
 rw[if_pos e]
 have a:(eA o c x y sa [] la ⟨sg,hd,aw,j,nt,false,f2,rv⟩ []).offered n h 9=eA o c (x-n) y sa [] la ⟨sg,hd,aw,j+1,nt,false,f2,rv⟩ [itn n j h true 0 false]:=by
  show (Ch.mk (duA o c) ⟨sg,hd,aw,IntKind.u64.wrap (j+1),nt,false,f2,rv⟩ (x-n) y [⟨⟨j,n,h,9⟩,true,0,false⟩] sa [] la)=_;rw[qaw (by omega) (by omega)];rfl
 rw[a]
 rfl
theorem q2n(i:1≤n∧n≤x)(g:0≤j∧j≤1000){sg hd nt:Int}{aw f2 rv:Bool} :
  (eB o c y x sb [] lb ⟨sg,hd,aw,j,nt,false,f2,rv⟩ []).offer n h 9=(eB o c y (x-n) sb [pN n j h] lb ⟨sg,hd,aw,j+1,nt,false,f2,rv⟩ [itn n j h true 0 false],pN n j h,0):=by
 have e:qa8 (eB o c y x sb [] lb ⟨sg,hd,aw,j,nt,false,f2,rv⟩ []) n 9=0:=by
  unfold qa8;rw[if_neg (by show ¬(false=true);decide),if_neg (by omega),if_neg (by omega),if_neg (by show ¬(8≤0);decide),if_neg (by show ¬(x<n);omega)]
 unfold Ch.offer
 rw[if_pos e]
 have a:(eB o c y x sb [] lb ⟨sg,hd,aw,j,nt,false,f2,rv⟩ []).offered n h 9=eB o c y (x-n) sb [] lb ⟨sg,hd,aw,j+1,nt,false,f2,rv⟩ [itn n j h true 0 false]:=by
  show (Ch.mk (duB o c) ⟨sg,hd,aw,IntKind.u64.wrap (j+1),nt,false,f2,rv⟩ (x-n) y [⟨⟨j,n,h,9⟩,true,0,false⟩] sb [] lb)=_;rw[qaw (by omega) (by omega)];rfl
 rw[a]
 rfl
end
section
variable {o c n x y sg j ja jb:Int}{h:Vector Int 32}{ra rb pd bad:Bool}{sa sb:List KeptV}{la lb:List MsgV}{F:MsgV}
theorem zdp(D:0≤sg∧sg≤999)(C:1≤n∧n≤1125899906842624)(z:0≤j∧j≤1000)(E:0≤x)(w:∀b∈h.toList,0≤b∧b≤255)(v:qaj (zn 6) sa)(m:qaj (zn 5) sb) :
  ∃i l q t,qaj (zn 6) i∧qaj (zn 5) l ∧
  Rests 500 ⟨eA o c x y sa [pN n j h] la ⟨sg,sg,false,j+1,jb,false,false,ra⟩ [itn n j h true 0 false],eB o c (x+n) y sb [] lb ⟨sg,sg,false,jb,j,false,false,rb⟩ [],[],[pN n j h],bad⟩
   ⟨eA o c x y i [] q ⟨sg+1,sg+1,false,j+1,jb,false,false,true⟩ [itn n j h true 4 false],eB o c x y l [] t ⟨sg+1,sg+1,false,jb,j+1,false,false,false⟩ [itn n j h false 4 false],[],[],bad⟩:=by
 have g:0≤sg∧sg≤1000:=⟨D.1,by omega⟩
 refine⟨_,_,[pN n j h]++[sgA x y sg [itn n j h true 1 false]],[]++[sgB x y sg [itn n j h false 3 false]],qd1 (sg:=sg) v,qeh (sg:=sg) m,?_⟩
 refine go_round (.no _) (.yes (zgs C z E w m (by omega))) (signA (L1:=[itn n j h true 1 false]) g (by kernel_rfl) (by kernel_rfl) (qan (by decide)) (bl rfl) (bl rfl)) (qd2 (.inr (by kernel_rfl)) (bl rfl) (bl rfl)) ⟨bl rfl,bl rfl⟩ ⟨bl rfl,bl rfl⟩ ⟨bl rfl,bl rfl⟩ rfl ?_
 refine go_round (.no _) (.yes (zai (xs:=[itn n j h true 1 false]) (L2:=[itn n j h false 2 false]) g m (bl rfl) (by kernel_rfl) (by kernel_rfl) (by exact qan (st:=1) (by decide)) (by kernel_rfl) (qan (by decide)))) (qdq (.inl rfl) (bl rfl) (bl rfl)) (signB (L1:=[itn n j h false 3 false]) g (by kernel_rfl) (by kernel_rfl) (qan (by decide)) (bl rfl) (bl rfl)) ⟨bl rfl,bl rfl⟩ ⟨bl rfl,bl rfl⟩ ⟨bl rfl,bl rfl⟩ rfl ?_
 refine go_round (.yes (zad (L1:=[itn n j h true 2 false]) g v (by omega) (bl rfl) (by kernel_rfl) (qan (by decide)))) (.no _) (qdq (.inr (by kernel_rfl)) (bl rfl) (bl rfl)) (qd2 (.inl rfl) (bl rfl) (bl rfl)) ⟨bl rfl,bl rfl⟩ ⟨bl rfl,bl rfl⟩ ⟨bl rfl,bl rfl⟩ rfl ?_
 refine go_round (.yes (zah (xs:=[itn n j h false 3 false]) (L2:=[itn n j h true 4 false]) g (qd1 (sg:=sg) v) (bl rfl) (by kernel_rfl) (by kernel_rfl) (by exact qan (st:=3) (by decide)) (by kernel_rfl) (qan (by decide)))) (.yes (zae (L1:=[itn n j h false 4 false]) g m (by omega) (bl rfl) (by kernel_rfl) (qan (by decide)))) (qdq (.inr (by kernel_rfl)) (bl rfl) (bl rfl)) (qd2 (.inr (by kernel_rfl)) (bl rfl) (bl rfl)) ⟨bl rfl,bl rfl⟩ ⟨bl rfl,bl rfl⟩ ⟨bl rfl,bl rfl⟩ rfl ?_
 exact go_stop (qdq (.inr (by kernel_rfl)) (bl rfl) (bl rfl)) (qd2 (.inr (by kernel_rfl)) (bl rfl) (bl rfl))
theorem zdq(D:0≤sg∧sg≤999)(C:1≤n∧n≤1125899906842624)(z:0≤j∧j≤1000)(E:0≤x)(w:∀b∈h.toList,0≤b∧b≤255)(m:qaj (zn 6) sa)(v:qaj (zn 5) sb) :
  ∃i l q t,qaj (zn 6) i∧qaj (zn 5) l ∧
  Rests 500 ⟨eA o c y (x+n) sa [] la ⟨sg,sg,false,ja,j,false,false,ra⟩ [],eB o c y x sb [pN n j h] lb ⟨sg,sg,false,j+1,ja,false,false,rb⟩ [itn n j h true 0 false],[pN n j h],[],bad⟩
   ⟨eA o c y x i [] q ⟨sg+1,sg+1,false,ja,j+1,false,false,false⟩ [itn n j h false 4 false],eB o c y x l [] t ⟨sg+1,sg+1,false,j+1,ja,false,false,true⟩ [itn n j h true 4 false],[],[],bad⟩:=by
 have g:0≤sg∧sg≤1000:=⟨D.1,by omega⟩
 refine⟨_,_,[]++[sgA y x sg [itn n j h false 3 false]],[pN n j h]++[sgB y x sg [itn n j h true 1 false]],qd1 (sg:=sg) m,qeh (sg:=sg) v,?_⟩
 refine go_round (.yes (zgr C z E w m (by omega))) (.no _) (qdq (.inr (by kernel_rfl)) (bl rfl) (bl rfl)) (signB (L1:=[itn n j h true 1 false]) g (by kernel_rfl) (by kernel_rfl) (qan (by decide)) (bl rfl) (bl rfl)) ⟨bl rfl,bl rfl⟩ ⟨bl rfl,bl rfl⟩ ⟨bl rfl,bl rfl⟩ rfl ?_
 refine go_round (.yes (zah (xs:=[itn n j h true 1 false]) (L2:=[itn n j h false 2 false]) g m (bl rfl) (by kernel_rfl) (by kernel_rfl) (by exact qan (st:=1) (by decide)) (by kernel_rfl) (qan (by decide)))) (.yes (zae (L1:=[itn n j h true 2 false]) g v (by omega) (bl rfl) (by kernel_rfl) (qan (by decide)))) (signA (L1:=[itn n j h false 3 false]) g (by kernel_rfl) (by kernel_rfl) (qan (by decide)) (bl rfl) (bl rfl)) (qd2 (.inr (by kernel_rfl)) (bl rfl) (bl rfl)) ⟨bl rfl,bl rfl⟩ ⟨bl rfl,bl rfl⟩ ⟨bl rfl,bl rfl⟩ rfl ?_
 refine go_round (.no _) (.yes (zai (xs:=[itn n j h false 3 false]) (L2:=[itn n j h true 4 false]) g (qeh (sg:=sg) v) (bl rfl) (by kernel_rfl) (by kernel_rfl) (by exact qan (st:=3) (by decide)) (by kernel_rfl) (qan (by decide)))) (qdq (.inl rfl) (bl rfl) (bl rfl)) (qd2 (.inr (by kernel_rfl)) (bl rfl) (bl rfl)) ⟨bl rfl,bl rfl⟩ ⟨bl rfl,bl rfl⟩ ⟨bl rfl,bl rfl⟩ rfl ?_
 refine go_round (.yes (zad (L1:=[itn n j h false 4 false]) g m (by omega) (bl rfl) (by kernel_rfl) (qan (by decide)))) (.no _) (qdq (.inr (by kernel_rfl)) (bl rfl) (bl rfl)) (qd2 (.inr (by kernel_rfl)) (bl rfl) (bl rfl)) ⟨bl rfl,bl rfl⟩ ⟨bl rfl,bl rfl⟩ ⟨bl rfl,bl rfl⟩ rfl ?_
 exact go_stop (qdq (.inr (by kernel_rfl)) (bl rfl) (bl rfl)) (qd2 (.inr (by kernel_rfl)) (bl rfl) (bl rfl))
theorem zb2(g:0≤sg∧sg≤1000)(t:qaj (zn 6) sa)(v:qaj (zn 5) sb)
  (w:HearSt (eA o c x y sa [] la ⟨sg,sg,false,j+1,jb,false,false,ra⟩ [itn n j h true 4 false]) F (eA o c x y sa [] la ⟨sg,sg,false,j+1,jb,false,false,ra⟩ [itn n j h true 5 pd]) []) :
  ∃i l m q,qaj (zn 6) i∧qaj (zn 5) l ∧
  Rests 500 ⟨eA o c x y sa [] la ⟨sg,sg,false,j+1,jb,false,false,ra⟩ [itn n j h true 4 false],eB o c x y sb [] lb ⟨sg+1,sg,true,jb,j+1,false,false,false⟩ [itn n j h false 6 pd],[F,sgB x y sg [itn n j h false 6 pd]],[],bad⟩
   ⟨eA o c (qau (!pd) n x) (qau pd n y) i [] m ⟨sg+1,sg+1,false,j+1,jb,false,false,false⟩ [],eB o c (qau (!pd) n x) (qau pd n y) l [] q ⟨sg+1,sg+1,false,jb,j+1,false,false,true⟩ [],[],[],bad⟩:=by
 refine⟨_,_,[]++[sgA x y sg [itn n j h true 8 pd]],lb,qd1 (sg:=sg) t,qeh (sg:=sg) v,?_⟩
 refine go_round (.yes w) (.no _) (qdq (.inr (by kernel_rfl)) (bl rfl) (bl rfl)) (qd2 (.inl rfl) (bl rfl) (bl rfl)) ⟨bl rfl,bl rfl⟩ ⟨bl rfl,bl rfl⟩ ⟨bl rfl,bl rfl⟩ rfl ?_
 refine go_round (.yes (zah (xs:=[itn n j h false 6 pd]) (L2:=[itn n j h true 7 pd]) g t (bl rfl) (by kernel_rfl) (by kernel_rfl) (by exact qan (st:=6) (by decide)) (by kernel_rfl) (qan (by decide)))) (.yes (zae (L1:=[itn n j h false 7 pd]) g v (by omega) (bl rfl) (by kernel_rfl) (qan (by decide)))) (signA (L1:=[itn n j h true 8 pd]) g (by kernel_rfl) (by kernel_rfl) (qan (by decide)) (bl rfl) (bl rfl)) (qd2 (.inr (by kernel_rfl)) (bl rfl) (bl rfl)) ⟨bl rfl,bl rfl⟩ ⟨bl rfl,bl rfl⟩ ⟨bl rfl,bl rfl⟩ rfl ?_
 refine go_round (.no _) (.yes (q14 (n:=n) (j:=j) (h:=h) (pd:=pd) (xs:=[itn n j h true 8 pd]) g (qeh (sg:=sg) v) (bl rfl) (by kernel_rfl) (by kernel_rfl) (by exact qan (st:=8) (by decide)) (by kernel_rfl))) (qdq (.inl rfl) (bl rfl) (bl rfl)) (qd2 (.inr (by kernel_rfl)) (bl rfl) (bl rfl)) ⟨bl rfl,bl rfl⟩ ⟨bl rfl,bl rfl⟩ ⟨bl rfl,bl rfl⟩ rfl ?_
 refine go_round (.yes (q13 (n:=n) (j:=j) (h:=h) (pd:=pd) g t (by omega) (bl rfl) (by kernel_rfl))) (.no _) (qdq (.inr (by kernel_rfl)) (bl rfl) (bl rfl)) (qd2 (.inr (by kernel_rfl)) (bl rfl) (bl rfl)) ⟨bl rfl,bl rfl⟩ ⟨bl rfl,bl rfl⟩ ⟨bl rfl,bl rfl⟩ rfl ?_
 exact go_stop (qdq (.inr (by kernel_rfl)) (bl rfl) (bl rfl)) (qd2 (.inr (by kernel_rfl)) (bl rfl) (bl rfl))
theorem zb3(g:0≤sg∧sg≤1000)(t:qaj (zn 6) sa)(v:qaj (zn 5) sb)
  (w:HearSt (eB o c y x sb [] lb ⟨sg,sg,false,j+1,ja,false,false,rb⟩ [itn n j h true 4 false]) F (eB o c y x sb [] lb ⟨sg,sg,false,j+1,ja,false,false,rb⟩ [itn n j h true 5 pd]) []) :
  ∃i l m q,qaj (zn 6) i∧qaj (zn 5) l ∧
  Rests 500 ⟨eA o c y x sa [] la ⟨sg+1,sg,true,ja,j+1,false,false,false⟩ [itn n j h false 6 pd],eB o c y x sb [] lb ⟨sg,sg,false,j+1,ja,false,false,rb⟩ [itn n j h true 4 false],[],[F,sgA y x sg [itn n j h false 6 pd]],bad⟩
   ⟨eA o c (qau pd n y) (qau (!pd) n x) i [] m ⟨sg+1,sg+1,false,ja,j+1,false,false,true⟩ [],eB o c (qau pd n y) (qau (!pd) n x) l [] q ⟨sg+1,sg+1,false,j+1,ja,false,false,false⟩ [],[],[],bad⟩:=by
 refine⟨_,_,la,[]++[sgB y x sg [itn n j h true 8 pd]],qd1 (sg:=sg) t,qeh (sg:=sg) v,?_⟩
 refine go_round (.no _) (.yes w) (qdq (.inl rfl) (bl rfl) (bl rfl)) (qd2 (.inr (by kernel_rfl)) (bl rfl) (bl rfl)) ⟨bl rfl,bl rfl⟩ ⟨bl rfl,bl rfl⟩ ⟨bl rfl,bl rfl⟩ rfl ?_
 refine go_round (.no _) (.yes (zai (xs:=[itn n j h false 6 pd]) (L2:=[itn n j h true 7 pd]) g v (bl rfl) (by kernel_rfl) (by kernel_rfl) (by exact qan (st:=6) (by decide)) (by kernel_rfl) (qan (by decide)))) (qdq (.inl rfl) (bl rfl) (bl rfl)) (signB (L1:=[itn n j h true 8 pd]) g (by kernel_rfl) (by kernel_rfl) (qan (by decide)) (bl rfl) (bl rfl)) ⟨bl rfl,bl rfl⟩ ⟨bl rfl,bl rfl⟩ ⟨bl rfl,bl rfl⟩ rfl ?_
 refine go_round (.yes (zad (L1:=[itn n j h false 7 pd]) g t (by omega) (bl rfl) (by kernel_rfl) (qan (by decide)))) (.no _) (qdq (.inr (by kernel_rfl)) (bl rfl) (bl rfl)) (qd2 (.inl rfl) (bl rfl) (bl rfl)) ⟨bl rfl,bl rfl⟩ ⟨bl rfl,bl rfl⟩ ⟨bl rfl,bl rfl⟩ rfl ?_
 refine go_round (.yes (qrt (n:=n) (j:=j) (h:=h) (pd:=pd) (xs:=[itn n j h true 8 pd]) g (qd1 (sg:=sg) t) (bl rfl) (by kernel_rfl) (by kernel_rfl) (by exact qan (st:=8) (by decide)) (by kernel_rfl))) (.yes (qrq (n:=n) (j:=j) (h:=h) (pd:=pd) g v (by omega) (bl rfl) (by kernel_rfl))) (qdq (.inr (by kernel_rfl)) (bl rfl) (bl rfl)) (qd2 (.inr (by kernel_rfl)) (bl rfl) (bl rfl)) ⟨bl rfl,bl rfl⟩ ⟨bl rfl,bl rfl⟩ ⟨bl rfl,bl rfl⟩ rfl ?_
 exact go_stop (qdq (.inr (by kernel_rfl)) (bl rfl) (bl rfl)) (qd2 (.inr (by kernel_rfl)) (bl rfl) (bl rfl))
theorem zb4(l:0≤sg∧sg≤1000)(t:qaj (zn 6) sa)(v:qaj (zn 5) sb) :
  ∃g i m q,qaj (zn 6) g∧qaj (zn 5) i ∧
  Rests 500 ⟨eA o c y x sa [] la ⟨sg+1,sg,true,ja,j+1,false,false,false⟩ [itn n j h false 6 pd],eB o c y x sb [] lb ⟨sg,sg+1,false,j+1,ja,false,false,true⟩ [itn n j h true 7 pd],[rvB sg],[],bad⟩
   ⟨eA o c (qau pd n y) (qau (!pd) n x) g [] m ⟨sg+1,sg+1,false,ja,j+1,false,false,true⟩ [],eB o c (qau pd n y) (qau (!pd) n x) i [] q ⟨sg+1,sg+1,false,j+1,ja,false,false,false⟩ [],[],[],bad⟩:=by
 refine⟨_,_,la,[]++[sgB y x sg [itn n j h true 8 pd]],qd1 (sg:=sg) t,qeh (sg:=sg) v,?_⟩
 refine go_round (.yes (zad (L1:=[itn n j h false 7 pd]) l t (by omega) (bl rfl) (by kernel_rfl) (qan (by decide)))) (.no _) (qdq (.inr (by kernel_rfl)) (bl rfl) (bl rfl)) (signB (L1:=[itn n j h true 8 pd]) l (by kernel_rfl) (by kernel_rfl) (qan (by decide)) (bl rfl) (bl rfl)) ⟨bl rfl,bl rfl⟩ ⟨bl rfl,bl rfl⟩ ⟨bl rfl,bl rfl⟩ rfl ?_
 refine go_round (.yes (qrt (n:=n) (j:=j) (h:=h) (pd:=pd) (xs:=[itn n j h true 8 pd]) l (qd1 (sg:=sg) t) (bl rfl) (by kernel_rfl) (by kernel_rfl) (by exact qan (st:=8) (by decide)) (by kernel_rfl))) (.yes (qrq (n:=n) (j:=j) (h:=h) (pd:=pd) l v (by omega) (bl rfl) (by kernel_rfl))) (qdq (.inr (by kernel_rfl)) (bl rfl) (bl rfl)) (qd2 (.inr (by kernel_rfl)) (bl rfl) (bl rfl)) ⟨bl rfl,bl rfl⟩ ⟨bl rfl,bl rfl⟩ ⟨bl rfl,bl rfl⟩ rfl ?_
 exact go_stop (qdq (.inr (by kernel_rfl)) (bl rfl) (bl rfl)) (qd2 (.inr (by kernel_rfl)) (bl rfl) (bl rfl))
end
theorem qzd{R:Nat→Prop} : ∀m,R m→∃n,R n∧∀k,R k→n≤k:=by
 intro m
 induction m using Nat.strongRecOn with
 | ind m q =>
  intro h;by_cases i:∃k,k<m∧R k
  ·obtain⟨k,g,l⟩:=i;exact q k g l
  ·exact⟨m,h,fun k o=>by
    rcases Nat.lt_or_ge k m with g | g
    ·exact absurd ⟨k,g,o⟩ i
    ·exact g⟩
noncomputable def qms(R:Nat→Prop):Nat:=open Classical in if h:∃n,R n∧∀k,R k→n≤k then Classical.choose h else 0
theorem q6x{R:Nat→Prop}{m:Nat}(h:R m):qms R≤m:=by
 have e:=qzd m h;unfold qms;rw[dif_pos e];exact(Classical.choose_spec e).2 m h
theorem q2d{R:Nat→Prop}{m:Nat}(h:R m):R (qms R):=by
 have e:=qzd m h;unfold qms;rw[dif_pos e];exact(Classical.choose_spec e).1
theorem zau{R:Nat→Prop}{m:Nat}(h:R m):∃L,L=qms R∧R L:=⟨_,rfl,q2d h⟩
def RsW(K:Kon)(N:Nat)(P:Pr)(w0 w:World)(p:Nat)(S:Nat→Prop)(hv i:Value)(wr:World)(m:Nat):Prop:=∃h g R,hv = .int .i64 ((h:Nat):Int)∧i = .bool g∧RsD K N P h g R∧DSt w0 w p S wr R∧m=R.mu+b2n g
noncomputable def Pr.bk(R:Pr)(i:Nat):Bool:=decide (0<R.ck i)
theorem zgg{R:Pr}{i c:Nat}(h:R.ck i=c+1):R.bk i=true:=decide_eq_true (by omega)
theorem q99{K:Kon}{n k:Nat}{P:Pr}(g:K.Ok)(o:n<99000)(h:PInv K n P)(i:k<2){m:MsgV}{ms:List MsgV}(l:P.way k=m::ms):HearsOk P k m ms :=
 ⟨l,h.hok g (by omega) i,(qrl g (by omega) h i l).1.err⟩
theorem zgx{R:Pr}{i:Nat}(g:i<2):((R.hk i).way i=[]→R.hk (i+1)=R.hk i∧R.ck (i+1)=R.ck i)∧∀m ms,(R.hk i).way i=m::ms→R.ck (i+1)=R.ck i+1:=by
 refine⟨fun h=> ?_,fun m ms h=> ?_⟩
 ·have e:=qoq g h;show ((R.hk i).heard i).1=_∧R.ck i+b2n ((R.hk i).heard i).2=_;rw[e];exact⟨rfl,rfl⟩
 ·show R.ck i+b2n ((R.hk i).heard i).2=_;rw[(qmn g h).2];rfl
section
variable {w0 w:World}{p:Nat}{S:Nat→Prop}{K:Kon}{N:Nat}{P:Pr}
set_option maxRecDepth 100000 in
set_option maxHeartbeats 4000000 in
theorem qoj(hT:Tb w0)(C:K.Ok)(hN:N<60000)(h:DuD w0 w p S P)(hB:Bnd K N P) :
  Calls Tryz.prog 13 #[.pointer (some ⟨p,0,none⟩)] w fun e w'=>e = .returned (.int .i64 (P.restN:Int))∧DSt w0 w p S w' P.restD:=by
 have H:=qb h
 have c8:P.mu<500:=by obtain⟨n,h1,t⟩:=hB;exact h1.mu
 have HS:Hid (RsW K N P w0 w p S (.int .i64 0) (.bool true) w (P.mu+1)):=qb ⟨0,true,P,rfl,rfl,RsD.start hB,DSt.refl h,rfl⟩
 have hB:=qb hB
 clear h
 go_enter Tryz.func13,Tryz.ntmps13
 go_wp2_with (with_reducible first|(first|refine' tw1 (qg ?_) ?_|refine' tw2 (qg ?_) ?_);rotate_left|refine' tw3 (qg ?_)|rfl|apply tn|refine' tw4 ?_)
 go_loopw [3,4] (fun hv z wr=>∃m,Hid (RsW K N P w0 w p S hv z wr m)) (fun hv z wr=>qms (RsW K N P w0 w p S hv z wr))
 case atStart=>exact⟨_,HS⟩
 case round =>
  obtain⟨m,o⟩:=hrel;obtain⟨wq,rfl⟩:∃wq:World,wq=wr:=⟨_,rfl⟩;obtain⟨L,a4,hL⟩:=zau (qa o);have b5:=qb a4;have V:∀hv z wx m',RsW K N P w0 w p S hv z wx m'→qms (RsW K N P w0 w p S hv z wx)≤m':=fun _ _ _ _ h=>q6x h
  obtain⟨hh,go,R,rfl,rfl,Z,hD,U⟩:=hL;have c3:=Z.few C (by omega) (qa hB);have c7:(hh:Int)<500:=by omega
  clear o HS a4;cases go with
  | false =>
   obtain⟨e1,v,e3,e4⟩:=Z.stop;have HD:=qb (And.intro hD (And.intro e1 v));clear hD Z e1 v e3 e4 V U;go_wp2_with (with_reducible first|(first|refine' tw1 (qg ?_) ?_|refine' tw2 (qg ?_) ?_);rotate_left|refine' tw3 (qg ?_)|rfl|apply tn|refine' tw4 ?_);go_ret;obtain⟨h1,t,h3⟩:=qa HD;exact⟨by rw[h3];rfl,by rw[t];exact h1⟩
  | true =>
   have HR:=qb Z;have b6:=qb V;have HL:=qb U;have D:=Z.bnd;have J:=qb D;have a9:∀i,i≤2→R.ck i≤500:=fun i hi=>by
    have:=(q4a C (by omega) D i hi).1;obtain⟨n,a1,a2⟩:=D;have:=a1.mu;omega
   have M:=qb a9;have HD:=qb hD;clear hD Z V U D a9;go_wp2_with (with_reducible first|(first|refine' tw1 (qg ?_) ?_|refine' tw2 (qg ?_) ?_);rotate_left|refine' tw3 (qg ?_)|rfl|apply tn|refine' tw4 ?_)
   go_loopw [3,4,8] (fun hv z Y wr=>∃i:Nat,i≤2∧Y = .int .i64 (i:Int)∧hv = .int .i64 ((hh+R.ck i:Nat):Int)∧z = .bool (R.bk i)∧Hid (DSt w0 w p S wr (R.hk i))) (fun _ _ Y _=>2-(intOf Y).toNat)
   case atStart=>exact⟨0,by decide,rfl,rfl,rfl,HD⟩
   case round =>
    obtain⟨i,hi,rfl,rfl,rfl,o⟩:=hrel;obtain⟨wv,rfl⟩:∃wv:World,wv=wr:=⟨_,rfl⟩;clear HD;by_cases l:i<2
    ·have b9:(i:Int)<2:=by omega
     obtain⟨l1,l2⟩:=zgx (R:=R) l;have c5:=qa M i (by omega);have hd:=(qa o).1;obtain⟨n,a1,a2⟩:=(qa J).hk C (by omega) i (by omega);have X:=q1l hT hd (i:Int) i (qxg l);obtain⟨g,T,u,hU⟩:=hd;have b3:=hU.row i l;obtain⟨ua,uc,hu⟩:=b3.shape;have c:=hU.cellW l;rw[hu] at c;have O:=qb (show ∀m ms,(R.hk i).way i=m::ms→HearsOk (R.hk i) i m ms from fun m ms F=>q99 C (by omega) a1 l F);clear hU b3 hu a1 a2;have c6:(((hh+R.ck i:Nat):Int))<1001:=by omega
     cases F:(R.hk i).way i with
     | nil =>
      obtain⟨e1,v⟩:=l1 F;rw[F] at c;have e3:R.bk (i+1)=R.bk i:=by unfold Pr.bk;rw[v]
      have q:Hid (DSt w0 w p S wv (R.hk (i+1))):=qb (by rw[e1];exact qa o);simp only[List.length_nil] at c;clear X F l1 l2 o O e1;have HE:=qb (And.intro v e3);clear v e3;generalize R.ck i=cc at *
      generalize R.bk i=bb at *
      go_wp2_with (with_reducible first|(first|refine' tw1 (qg ?_) ?_|refine' tw2 (qg ?_) ?_);rotate_left|refine' tw3 (qg ?_)|rfl|apply tn|refine' tw4 ?_);go_roundw
      case rel=>exact⟨i+1,by omega,by go_num,by rw[(qa HE).1],by rw[(qa HE).2],q⟩
      case measure=>simp[intOf];omega
     | cons m ms =>
      have v:=l2 m ms F;have I:=X m ms (qa O m ms F);rw[F] at c;have c0:(0:Int)<((m::ms).length:Int):=by rw[List.length_cons];omega
      generalize (m::ms).length=nl at c c0;have HE:=qb (And.intro v (zgg v));clear X F l1 l2 O v;generalize R.ck i=cc at *
      generalize R.bk i=bb at *
      go_wp2_with (with_reducible first|(first|refine' tw1 (qg ?_) ?_|refine' tw2 (qg ?_) ?_);rotate_left|refine' tw3 (qg ?_)|rfl|apply tn|refine' tw4 ?_);refine I.mono ?_;rintro e w2 ⟨rfl,t⟩;have q:Hid (DSt w0 w p S w2 (R.hk (i+1))):=qb (DSt.trans (qa H) (qa o) t);clear I t c o;go_wp2_with (with_reducible first|(first|refine' tw1 (qg ?_) ?_|refine' tw2 (qg ?_) ?_);rotate_left|refine' tw3 (qg ?_)|rfl|apply tn|refine' tw4 ?_);go_roundw
      case rel=>exact⟨i+1,by omega,by go_num,by rw[(qa HE).1];go_num,by rw[(qa HE).2],q⟩
      case measure=>simp[intOf];omega
    ·obtain rfl:i=2:=by omega
     have c4:=qa M 2 (by decide);have a7:Hid (DSt w0 w p S wv (R.sk 0)):=o;have hg:R.bk 2=R.gk 0:=rfl;rw[hg];clear o M hg;generalize a8:hh+R.ck 2=cc at *
     have b4:=qb a8;clear a8;rw[show ((2:Nat):Int)=2 from rfl];go_wp2_with (with_reducible first|(first|refine' tw1 (qg ?_) ?_|refine' tw2 (qg ?_) ?_);rotate_left|refine' tw3 (qg ?_)|rfl|apply tn|refine' tw4 ?_)
     go_loopw [4,25] (fun z Y wr=>∃i:Nat,i≤2∧Y = .int .i64 (i:Int)∧z = .bool (R.gk i)∧Hid (DSt w0 w p S wr (R.sk i))) (fun _ Y _=>2-(intOf Y).toNat)
     case atStart=>exact⟨0,by decide,rfl,rfl,a7⟩
     case round =>
      obtain⟨i,hi,rfl,rfl,o⟩:=hrel;obtain⟨wu,rfl⟩:∃wu:World,wu=wr:=⟨_,rfl⟩;clear a7;by_cases l:i<2
      ·have b9:(i:Int)<2:=by omega
       obtain⟨n,a1,a2⟩:=(qa J).sk C (by omega) i (by omega);have c2:=a1.few;have I:=qt0 hT (qa o).1 (i:Int) i (qxg l) ((a1.end C (by omega) l).sign C (by omega)) (a1.sign C l).2 (by
        rcases qb1 l with rfl | rfl
        ·show (R.sk 0).wb.length<_;omega
        ·show (R.sk 1).wa.length<_;omega)
       have I:Calls Tryz.prog 16 #[.pointer (some ⟨p,0,none⟩),.int .i64 (i:Int)] wu fun e w'=>e = .returned (.int .i64 ((R.sk i).en i).sign.2.2)∧DSt w0 wu p (Fr S w wu) w' (R.sk (i+1)):=I
       have E:R.gk (i+1)=(R.gk i || (((R.sk i).en i).sign.2.2==0)):=rfl;generalize ((R.sk i).en i).sign.2.2=er at *
       clear a1 a2 c2;by_cases e0:er=0
       ·subst e0;have HG:Hid (R.gk (i+1)=true):=qb (by rw[E];simp);clear E;generalize R.gk i=bb at *
        go_wp2_with (with_reducible first|(first|refine' tw1 (qg ?_) ?_|refine' tw2 (qg ?_) ?_);rotate_left|refine' tw3 (qg ?_)|rfl|apply tn|refine' tw4 ?_);refine I.mono ?_;rintro e w2 ⟨rfl,t⟩;have q:Hid (DSt w0 w p S w2 (R.sk (i+1))):=qb (DSt.trans (qa H) (qa o) t);clear I t o;go_wp2_with (with_reducible first|(first|refine' tw1 (qg ?_) ?_|refine' tw2 (qg ?_) ?_);rotate_left|refine' tw3 (qg ?_)|rfl|apply tn|refine' tw4 ?_);go_roundw
        case rel=>exact⟨i+1,by omega,by go_num,by rw[qa HG],q⟩
        case measure=>simp[intOf];omega
       ·have c1:(er==0)=false:=beq_eq_false_iff_ne.2 e0;have HG:Hid (R.gk (i+1)=R.gk i):=qb (by rw[E,c1,Bool.or_false]);clear E;generalize R.gk i=bb at *
        go_wp2_with (with_reducible first|(first|refine' tw1 (qg ?_) ?_|refine' tw2 (qg ?_) ?_);rotate_left|refine' tw3 (qg ?_)|rfl|apply tn|refine' tw4 ?_);refine I.mono ?_;rintro e w2 ⟨rfl,t⟩;have q:Hid (DSt w0 w p S w2 (R.sk (i+1))):=qb (DSt.trans (qa H) (qa o) t);clear I t o;go_wp2_with (with_reducible first|(first|refine' tw1 (qg ?_) ?_|refine' tw2 (qg ?_) ?_);rotate_left|refine' tw3 (qg ?_)|rfl|apply tn|refine' tw4 ?_);go_roundw
        case rel=>exact⟨i+1,by omega,by go_num,by rw[qa HG],q⟩
        case measure=>simp[intOf];omega
      ·obtain rfl:i=2:=by omega
       have W:RsW K N P w0 w p S (.int .i64 ((cc:Nat):Int)) (.bool (R.gk 2)) wu ((R.sk 2).mu+b2n (R.gk 2)):=⟨cc,R.gk 2,R.sk 2,rfl,rfl,by rw[←qa b4];exact(qa HR).next C (by omega),qa o,rfl⟩;have a5:(R.sk 2).mu+b2n (R.gk 2)<L:=by
        rw[qa HL];obtain⟨s1,s2⟩:=qme C (by omega) (qa J) 2 (Nat.le_refl _);cases hg:R.gk 2 with
        | true=>have:=s1 hg;show _+1<_+1;omega
        | false=>rw[(s2 hg).1];show _+0<_+1;omega
       have a6:=Nat.lt_of_le_of_lt (qa b6 _ _ _ _ W) a5;have b8:=qb W;have b7:=qb a6;clear W a5 a6 o;generalize R.gk 2=bb at *
       go_wp2_with (with_reducible first|(first|refine' tw1 (qg ?_) ?_|refine' tw2 (qg ?_) ?_);rotate_left|refine' tw3 (qg ?_)|rfl|apply tn|refine' tw4 ?_);go_roundw
       case rel=>exact⟨_,b8⟩
       case measure =>
        have hq:=qa b7;rw[qa b5] at hq;exact hq
end
end Go.Proofs.YthnohmjbbeahmaaGreatDoor
