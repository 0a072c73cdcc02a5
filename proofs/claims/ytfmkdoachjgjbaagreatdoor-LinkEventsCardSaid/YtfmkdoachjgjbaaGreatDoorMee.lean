/-
  Law 13: an end's steps as equations; rests as a chain of rounds.
-/
import Derived.Test.YtfmkdoachjgjbaaGreatDoorMed
import Derived.Test.YtfmkdoachjgjbaaGreatDoorMeb
set_option linter.unusedVariables false
set_option linter.unusedSimpArgs false
namespace Go.Proofs.YtfmkdoachjgjbaaGreatDoor
open Go.RowKit
section
variable {c:Ch}{m:MsgV}
theorem q88(q:qam m=true)(f:m.ch=c.s.ch)(i:m.kind=3):c.hear m=((c.hearAdd m).1,[],(c.hearAdd m).2):=by
 unfold Ch.hear;rw[if_neg (by rw[q,f];simp),if_pos i]
theorem q89(q:qam m=true)(f:m.ch=c.s.ch)(i:m.kind=4):c.hear m=((c.hearFulfill m).1,[],(c.hearFulfill m).2):=by
 unfold Ch.hear;rw[if_neg (by rw[q,f];simp),if_neg (by omega),if_pos i]
theorem q9a(q:qam m=true)(f:m.ch=c.s.ch)(i:m.kind=5):c.hear m=((c.hearFail m).1,[],(c.hearFail m).2):=by
 unfold Ch.hear;rw[if_neg (by rw[q,f];simp),if_neg (by omega),if_neg (by omega),if_pos i]
theorem qza(q:qam m=true)(f:m.ch=c.s.ch)(i:m.kind=6):c.hear m=c.hearSign m:=by
 unfold Ch.hear;rw[if_neg (by rw[q,f];simp),if_neg (by omega),if_neg (by omega),if_neg (by omega),if_pos i]
theorem qzb(q:qam m=true)(f:m.ch=c.s.ch)(i:m.kind=7):c.hear m=((c.hearRevoke m).1,[],(c.hearRevoke m).2):=by
 unfold Ch.hear;rw[if_neg (by rw[q,f];simp),if_neg (by omega),if_neg (by omega),if_neg (by omega),if_neg (by omega),if_pos i]
end
theorem q0y(l:List Live):∀c:Ch,(∀z∈l,z.state≠9)→l.foldl qcr c=c:=by
 induction l with
 | nil=>intro c _;rfl
 | cons z l i =>
  intro c h;rw[List.foldl_cons,show qcr c z=c by unfold qcr;rw[if_neg (h z (List.mem_cons_self ..))],i c fun y f=>h y (List.mem_cons_of_mem _ f)]
theorem qg5{c:Ch}{ev:Int}{L:List Live}(h:qae ev c.xs=L)(f:∀z∈L,z.state≠9):c.goOn ev = {c with xs:=L} := by
 unfold Ch.goOn;rw[h,q0y L c f];have:qet L=L:=by
  unfold qet;rw[List.filter_eq_self];intro z i;have:=f z i;simpa using this
 rw[this]
theorem qqj{c:Ch}{ev:Int}{z:Live}(h:qae ev c.xs=[z])(f:z.state=9):c.goOn ev = {c.give (z.own != z.paid) z.h.amount with xs:=[]} := by
 unfold Ch.goOn;rw[h,List.foldl_cons,List.foldl_nil,show qcr c z=c.give (z.own != z.paid) z.h.amount by unfold qcr;rw[if_pos f]];have:qet [z]=[]:=by
  unfold qet;rw[List.filter_eq_nil_iff];intro y i;rw[List.mem_singleton.1 i,f];decide
 rw[this]
section
variable {s:SetupV}{sg hd no nt x y k:Int}{f1 f2 rv aw:Bool}{L L1 L2:List Live}{z:Live}{sh:List KeptV}{nw la:List MsgV}{T:List Int}
theorem zca(v:sg≠65535)(q:qa9 1 L=true)(i:qae 1 L=L1)(f:∀z∈L1,z.state≠9) :
  (Ch.mk s ⟨sg,hd,false,no,nt,f1,f2,rv⟩ x y L sh nw la).sign=(Ch.mk s ⟨sg+1,hd,true,no,nt,f1,f2,false⟩ x y L1 sh [] (nw++[⟨6,s.ch,0,0,qbi false s.key s.ch (sg+1) x y L1,0,sg+1⟩]),⟨6,s.ch,0,0,qbi false s.key s.ch (sg+1) x y L1,0,sg+1⟩,0):=by
 have e:qek (Ch.mk s ⟨sg,hd,false,no,nt,f1,f2,rv⟩ x y L sh nw la)=0:=by
  unfold qek;rw[if_neg (by simp),if_neg (by rw[q];simp),if_neg v]
 have g:(Ch.mk s ⟨sg,hd,false,no,nt,f1,f2,rv⟩ x y L sh nw la).signing=Ch.mk s ⟨sg+1,hd,true,no,nt,f1,f2,false⟩ x y L1 sh nw la:=by
  unfold Ch.signing;rw[qg5 (L:=L1) i f]
 have r:qcs (Ch.mk s ⟨sg,hd,false,no,nt,f1,f2,rv⟩ x y L sh nw la)=⟨6,0,0,0,qbi false s.key s.ch (sg+1) x y L1,0,sg+1⟩:=by
  unfold qcs;rw[g]
 rw[q3a e,g,r]
 generalize qbi false s.key s.ch (sg+1) x y L1=T
 rfl
theorem zcb(c:Ch)(h:c.k.awaits=true∨qa9 1 c.xs=false):c.sign=(c,MsgV.zero,5):=by
 refine qvp ?_ (by decide);unfold qek;by_cases f:c.k.awaits=true
 ·rw[if_pos f]
 ·rw[if_neg f,if_pos (h.resolve_left f)]
theorem q7b(f:0≤hd):(Ch.mk s ⟨sg,hd+1,aw,no,nt,f1,f2,true⟩ x y L sh nw la).revocation=⟨7,s.ch,0,0,(qc4 s.seed (65535-hd)).1,0,hd⟩:=by
 unfold Ch.revocation;have e:(Ch.mk s ⟨sg,hd+1,aw,no,nt,f1,f2,true⟩ x y L sh nw la).secret hd=qc4 s.seed (65535-hd):=by
  unfold Ch.secret;rw[if_neg (by show ¬(hd<0∨hd+1≤hd);omega)]
 show (⟨7,s.ch,0,0,((Ch.mk s ⟨sg,hd+1,aw,no,nt,f1,f2,true⟩ x y L sh nw la).secret (hd+1-1)).1,0,hd+1-1⟩:MsgV)=_;rw[show hd+1-1=hd by omega,e]
theorem zbt(H:0≤hd)(F:qa9 3 L=true)(q:qae 3 L=L1)(f:∀z∈L1,z.state≠9)(C:qae 4 L1=L2)(i:∀z∈L2,z.state≠9)(E:T=qbi true s.peer s.ch (hd+1) x y L1) :
  (Ch.mk s ⟨sg,hd,aw,no,nt,f1,f2,rv⟩ x y L sh nw la).hearSign ⟨6,s.ch,0,0,T,0,hd+1⟩=(Ch.mk s ⟨sg,hd+1,aw,no,nt,f1,f2,true⟩ x y L2 sh nw la,[⟨7,s.ch,0,0,(qc4 s.seed (65535-hd)).1,0,hd⟩],0):=by
 have e:qh5 (Ch.mk s ⟨sg,hd,aw,no,nt,f1,f2,rv⟩ x y L sh nw la) ⟨6,s.ch,0,0,T,0,hd+1⟩=false:=by
  unfold qh5;show (T != qbi true s.peer s.ch (hd+1) x y (qae 3 L))=false;rw[q,E];exact bne_self_eq_false _
 have g:(Ch.mk s ⟨sg,hd,aw,no,nt,f1,f2,rv⟩ x y L sh nw la).signedBy=Ch.mk s ⟨sg,hd+1,aw,no,nt,f1,f2,true⟩ x y L2 sh nw la:=by
  have r:(Ch.mk s ⟨sg,hd,aw,no,nt,f1,f2,rv⟩ x y L sh nw la).goOn 3=Ch.mk s ⟨sg,hd,aw,no,nt,f1,f2,rv⟩ x y L1 sh nw la:=qg5 (L:=L1) q f;have v:(Ch.mk s ⟨sg,hd+1,aw,no,nt,f1,f2,rv⟩ x y L1 sh nw la).goOn 4=Ch.mk s ⟨sg,hd+1,aw,no,nt,f1,f2,rv⟩ x y L2 sh nw la:=qg5 (L:=L2) C i;unfold Ch.signedBy;rw[r];show ((Ch.mk s ⟨sg,hd+1,aw,no,nt,f1,f2,rv⟩ x y L1 sh nw la).goOn 4).revokes=_;rw[v];rfl
 rw[qj3 F rfl e,g,q7b H]
theorem q5y(H:0≤hd)(F:qa9 3 L=true)(q:qae 3 L=L1)(f:∀z∈L1,z.state≠9)(C:qae 4 L1=[z])(i:z.state=9)(E:T=qbi true s.peer s.ch (hd+1) x y L1) :
  (Ch.mk s ⟨sg,hd,aw,no,nt,f1,f2,rv⟩ x y L sh nw la).hearSign ⟨6,s.ch,0,0,T,0,hd+1⟩=(Ch.mk s ⟨sg,hd+1,aw,no,nt,f1,f2,true⟩ (if (z.own != z.paid)=true then IntKind.u64.wrap (x+z.h.amount) else x) (if (z.own != z.paid)=true then y else IntKind.u64.wrap (y+z.h.amount)) [] sh nw la,[⟨7,s.ch,0,0,(qc4 s.seed (65535-hd)).1,0,hd⟩],0):=by
 have e:qh5 (Ch.mk s ⟨sg,hd,aw,no,nt,f1,f2,rv⟩ x y L sh nw la) ⟨6,s.ch,0,0,T,0,hd+1⟩=false:=by
  unfold qh5;show (T != qbi true s.peer s.ch (hd+1) x y (qae 3 L))=false;rw[q,E];exact bne_self_eq_false _
 have g:(Ch.mk s ⟨sg,hd,aw,no,nt,f1,f2,rv⟩ x y L sh nw la).signedBy=Ch.mk s ⟨sg,hd+1,aw,no,nt,f1,f2,true⟩ (if (z.own != z.paid)=true then IntKind.u64.wrap (x+z.h.amount) else x) (if (z.own != z.paid)=true then y else IntKind.u64.wrap (y+z.h.amount)) [] sh nw la:=by
  have r:(Ch.mk s ⟨sg,hd,aw,no,nt,f1,f2,rv⟩ x y L sh nw la).goOn 3=Ch.mk s ⟨sg,hd,aw,no,nt,f1,f2,rv⟩ x y L1 sh nw la:=qg5 (L:=L1) q f;have v:(Ch.mk s ⟨sg,hd+1,aw,no,nt,f1,f2,rv⟩ x y L1 sh nw la).goOn 4=_:=qqj (z:=z) C i;unfold Ch.signedBy;rw[r];show ((Ch.mk s ⟨sg,hd+1,aw,no,nt,f1,f2,rv⟩ x y L1 sh nw la).goOn 4).revokes=_;rw[v];unfold Ch.give;cases (z.own != z.paid)<;>rfl
 rw[qj3 F rfl e,g,q7b H]
theorem qzc{c:Ch}{R:List Int}{ch:Int}(f:c.k.awaits=true)(i:c.k.signed=k+1)(q:qee R (65535-k) c.shelf=0):c.hearRevoke ⟨7,ch,0,0,R,0,k⟩=(((c.shelved ⟨7,ch,0,0,R,0,k⟩).goOn 2).unawait,0):=by
 have e:ql6 c ⟨7,ch,0,0,R,0,k⟩=0:=by
  unfold ql6;rw[if_neg (by rw[f];decide),if_neg (by rw[i];show ¬(k≠k+1-1);omega),if_neg (by show ¬(qee R (65535-k) c.shelf≠0);rw[q];decide)]
 unfold Ch.hearRevoke;rw[if_pos e]
theorem zbs{R:List Int}{ch:Int}(q:qee R (65535-k) sh=0)(f:qae 2 L=L1)(i:∀z∈L1,z.state≠9) :
  (Ch.mk s ⟨k+1,hd,true,no,nt,f1,f2,rv⟩ x y L sh nw la).hearRevoke ⟨7,ch,0,0,R,0,k⟩=(Ch.mk s ⟨k+1,hd,false,no,nt,f1,f2,rv⟩ x y L1 (qi3 R (65535-k) sh) nw la,0):=by
 rw[qzc rfl rfl q]
 rw[qg5 (L:=L1) (by exact f) i]
 rfl
theorem q5x{R:List Int}{ch:Int}(q:qee R (65535-k) sh=0)(f:qae 2 L=[z])(i:z.state=9) :
  (Ch.mk s ⟨k+1,hd,true,no,nt,f1,f2,rv⟩ x y L sh nw la).hearRevoke ⟨7,ch,0,0,R,0,k⟩=(Ch.mk s ⟨k+1,hd,false,no,nt,f1,f2,rv⟩ (if (z.own != z.paid)=true then IntKind.u64.wrap (x+z.h.amount) else x) (if (z.own != z.paid)=true then y else IntKind.u64.wrap (y+z.h.amount)) [] (qi3 R (65535-k) sh) nw la,0):=by
 rw[qzc rfl rfl q]
 rw[qqj (z:=z) (by exact f) i]
 unfold Ch.give
 cases (z.own != z.paid)<;>rfl
end
structure HearSt(c:Ch)(m:MsgV)(c':Ch)(l:List MsgV):Prop where
 ok:MsgOk m
 eq:c.hear m=(c',l,0)
 inv:c.Inv
 kind:m.kind=3∨m.kind=4∨m.kind=5∨m.kind=6∨m.kind=7∨m.kind=8
 says:∀l'∈l,MsgOk l'
 few:l.length≤1000
structure SignSt(c c':Ch)(M:MsgV)(E:Int):Prop where
 eq:c.sign=(c',M,E)
 sok:SignOk c
 ok:MsgOk M
def qgh(c:Ch)(ws:List MsgV)(c':Ch)(l f:List MsgV)(g:Bool):Prop:=(ws=[]∧c'=c∧l=[]∧f=[]∧g=false)∨(∃m,ws=m::f∧HearSt c m c' l∧g=true)
theorem qgh.no(c:Ch):qgh c [] c [] [] false:= .inl ⟨rfl,rfl,rfl,rfl,rfl⟩
section
variable {a b a1 b1 a2 b2:Ch}{wa wb wa1 wb2 l0 l1:List MsgV}{bad g0 g1:Bool}{Ma Mb:MsgV}{Ea Eb:Int}{Q:Pr}{n:Nat}
theorem zcz(h:qgh a wa a1 l0 wa1 g0)(f:wa.length≤1000∧wb.length≤1000):Pr.hears0 ⟨a,b,wa,wb,bad⟩=(⟨a1,b,wa1,wb++l0,bad⟩,g0)∧Pr.Ok0 ⟨a,b,wa,wb,bad⟩:=by
 rcases h with ⟨rfl,rfl,rfl,rfl,rfl⟩ | ⟨m,rfl,h,rfl⟩
 ·exact⟨show _=((⟨a1,b,[],wb++[],bad⟩:Pr),false) by rw[List.append_nil];rfl,trivial⟩
 ·refine⟨?_,h.ok,⟨h.inv,h.kind,?_,?_⟩,?_⟩
  ·show ((⟨(a.hear m).1,b,wa1,wb++(a.hear m).2.1,bad || decide ((a.hear m).2.2≠0)⟩:Pr),true)=_;rw[h.eq];simp
  ·rw[h.eq];exact h.says
  ·have:=h.few;rw[h.eq];show wb.length+l0.length≤_;omega
  ·have:=f.1;rw[List.length_cons] at this;omega
theorem zc0(h:qgh b wb b1 l1 wb2 g1)(f:wa.length≤1000∧wb.length≤1000):Pr.hears1 ⟨a,b,wa,wb,bad⟩=(⟨a,b1,wa++l1,wb2,bad⟩,g1)∧Pr.Ok1 ⟨a,b,wa,wb,bad⟩:=by
 rcases h with ⟨rfl,rfl,rfl,rfl,rfl⟩ | ⟨m,rfl,h,rfl⟩
 ·exact⟨show _=((⟨a,b1,wa++[],[],bad⟩:Pr),false) by rw[List.append_nil];rfl,trivial⟩
 ·refine⟨?_,h.ok,⟨h.inv,h.kind,?_,?_⟩,?_⟩
  ·show ((⟨a,(b.hear m).1,wa++(b.hear m).2.1,wb2,bad || decide ((b.hear m).2.2≠0)⟩:Pr),true)=_;rw[h.eq];simp
  ·rw[h.eq];exact h.says
  ·have:=h.few;rw[h.eq];show wa.length+l1.length≤_;omega
  ·have:=f.2;rw[List.length_cons] at this;omega
end
structure Duo(s t:SetupV):Prop where
 ch:s.ch=t.ch
 chb:0≤s.ch∧s.ch<4294967296
 k1:s.key=t.peer
 k2:s.peer=t.key
 s1:s.key.size≤1000
 s2:t.key.size≤1000
 sl:s.seed.length=32
 tl:t.seed.length=32
 sb:qbm s.seed
 tb:qbm t.seed
theorem Duo.symm{s t:SetupV}(D:Duo s t):Duo t s:=⟨D.ch.symm,D.ch▸D.chb,D.k2.symm,D.k1.symm,D.s2,D.s1,D.tl,D.sl,D.tb,D.sb⟩
def qfh(j n:Int)(h:Vector Int 32)(e:Int)(ow:Bool)(st:Int)(pd:Bool):Live:=⟨⟨j,n,h,e⟩,ow,st,pd⟩
noncomputable def qol(s:SetupV)(k x y:Int)(xs:List Live):MsgV:=⟨6,s.ch,0,0,qbi false s.key s.ch k x y xs,0,k⟩
def qkt(s:SetupV)(k:Int):MsgV:=⟨7,s.ch,0,0,(qc4 s.seed (65535-k)).1,0,k⟩
def qwy(s:SetupV)(j n:Int)(h:Vector Int 32)(e:Int):MsgV:=⟨3,s.ch,j,n,h.toList,e,0⟩
def qfa(s:SetupV)(j:Int)(p:List Int):MsgV:=⟨4,s.ch,j,0,p,0,0⟩
def qg3(s:SetupV)(j r:Int):MsgV:=⟨5,s.ch,j,0,zg,0,r⟩
theorem q6k(c:Int)(T:List Int){n:Int}(f:0≤n∧n≤65535):qam ⟨7,c,0,0,T,0,n⟩=true:=by
 unfold qam;show (if (0:Int)<0∨1073741824<(0:Int)∨n<0∨65535<n∨1125899906842624<(0:Int) then false else decide (qgf _ _=qbh 7))=true;rw[if_neg (by omega)];kernel_rfl
theorem q6i(c i:Int)(h:List Int):qam ⟨4,c,i,0,h,0,0⟩=true:=by kernel_rfl
theorem q6h(c i:Int){r:Int}(f:0≤r∧r≤65535):qam ⟨5,c,i,0,zg,0,r⟩=true:=by
 unfold qam;show (if (0:Int)<0∨1073741824<(0:Int)∨r<0∨65535<r∨1125899906842624<(0:Int) then false else decide (qgf _ _=qbh 5))=true;rw[if_neg (by omega)];kernel_rfl
theorem qpn(b:Bool)(key:ByteArray)(ch n l r:Int)(xs:List Live):qbm (qbi b key ch n l r xs):=by unfold qbi qp2;exact qgc _
section
variable {s t:SetupV}{sg hd no nt x y j n e k r:Int}{f1 f2 rv aw pd ow:Bool}{h:Vector Int 32}{L L1 L2 xs:List Live}{sh:List KeptV}{nw la:List MsgV}{p:List Int}{c:Ch}
theorem qiz(i:0≤s.ch∧s.ch<4294967296)(f:0≤k∧k≤65535):SayOk (qol s k x y xs) :=
 qhj (by decide) i (by decide) (by decide) (qgr _ _ _ _ _ _ _) (qpn _ _ _ _ _ _ _) (by decide) f (qqw _ _ f)
theorem qg4(m:0≤s.ch∧s.ch<4294967296)(q:s.seed.length=32)(i:qbm s.seed)(f:0≤k∧k≤65535):SayOk (qkt s k) :=
 qhj (by decide) m (by decide) (by decide) (qly _ q _) (qmu _ i _) (by decide) f (q6k _ _ f)
theorem qok(q:0≤s.ch∧s.ch<4294967296)(v:0≤j∧j<18446744073709551616)(i:0≤n∧n≤1125899906842624)(m:∀b∈h.toList,0≤b∧b≤255)(f:0≤e∧e≤1073741824):SayOk (qwy s j n h e) :=
 qhj (by decide) q v i (by simp) m f (by decide) (q6g _ i.2 f)
theorem qt5(i:0≤s.ch∧s.ch<4294967296)(m:0≤j∧j<18446744073709551616)(q:p.length=32)(f:qbm p):SayOk (qfa s j p) :=
 qhj (by decide) i m (by decide) q f (by decide) (by decide) (q6i _ _ _)
theorem qt4(i:0≤s.ch∧s.ch<4294967296)(m:0≤j∧j<18446744073709551616)(f:0≤r∧r≤65535):SayOk (qg3 s j r) :=
 qhj (by decide) i m (by decide) qm qc3 (by decide) f (q6h _ _ f)
theorem qwz(D:Duo s t)(m:qec t.seed sh)(q:hd≤65535)(f:L.length≤16):(Ch.mk s ⟨sg,hd,aw,no,nt,f1,f2,rv⟩ x y L sh nw la).Inv :=
 ⟨fun p i=>(m p i).1,by show s.peer.size≤_;rw[D.k2];have:=D.s2;omega,D.chb,by show hd<_;omega,f⟩
theorem qf6{m:MsgV}(h:m.kind≠9):c.hears m=c.hear m:=by unfold Ch.hears;rw[if_neg h]
theorem qy8(D:Duo s t)(C:0≤sg∧sg≤60000)(m:qa9 1 L=true)(i:qae 1 L=L1)(f:∀z∈L1,z.state≠9)(v:nw.length≤1000)(q:L.length≤16) :
  SignC (Ch.mk s ⟨sg,hd,false,no,nt,f1,f2,rv⟩ x y L sh nw la) (Ch.mk s ⟨sg+1,hd,true,no,nt,f1,f2,false⟩ x y L1 sh [] (nw++[qol s (sg+1) x y L1])) [qol s (sg+1) x y L1] :=
 ⟨.inl ⟨_,zca (by omega) m i f,rfl,qiz D.chb ⟨by omega,by omega⟩⟩,by show s.key.size≤_;have:=D.s1;omega,D.chb,by show nw.length<_;omega,q⟩
theorem zaj(D:Duo s t)(f:c.s=s)(h:c.k.awaits=true∨qa9 1 c.xs=false)(m:c.news.length≤1000)(i:c.xs.length≤16):SignC c c [] :=
 ⟨.inr ⟨zcb c h,rfl,rfl⟩,by rw[f];have:=D.s1;omega,by rw[f];exact D.chb,by omega,i⟩
theorem zbp(D:Duo s t)(J:0≤hd∧hd≤60000)(m:qec t.seed sh)(C:L.length≤16)(E:L2.length≤16)(I:la.length≤1000)(F:qa9 3 L=true)(q:qae 3 L=xs.map qes)(f:∀z∈xs.map qes,z.state≠9)(v:qae 4 (xs.map qes)=L2)(i:∀z∈L2,z.state≠9) :
  HearC (Ch.mk s ⟨sg,hd,aw,no,nt,f1,f2,rv⟩ x y L sh nw la) (qol t (hd+1) y x xs) (Ch.mk s ⟨sg,hd+1,aw,no,nt,f1,f2,true⟩ x y L2 sh nw la) [qkt s hd]:=by
 refine⟨qiz D.symm.chb ⟨by omega,by omega⟩,⟨by show (3:Int)≤6;decide,by show (6:Int)≤9;decide⟩,?_,qwz D m (by omega) C,by show la.length≤_;omega,(fun l H=>by rw[List.mem_singleton.1 H];exact qg4 D.chb D.sl D.sb ⟨by omega,by omega⟩),by show (1:Nat)≤_;decide,by show L2.length≤_;omega⟩
 rw[qf6 (by show (6:Int)≠9;decide)]
 refine(qza (qiz D.symm.chb ⟨by omega,by omega⟩).may (by exact D.ch.symm) (by rfl)).trans ?_
 have e:=zbt (s:=s) (sg:=sg) (hd:=hd) (no:=no) (nt:=nt) (x:=x) (y:=y) (f1:=f1) (f2:=f2) (rv:=rv) (aw:=aw) (sh:=sh) (nw:=nw) (la:=la) (T:=qbi false t.key t.ch (hd+1) y x xs) J.1 F q f v i (by rw[D.k2,←D.ch];exact(qji _ _ _ _ _ _).symm)
 unfold qol qkt
 rw[←D.ch] at e ⊢
 exact e
def qj2(f:Bool)(n x:Int):Int:=if f=true then IntKind.u64.wrap (x+n) else x
theorem q01(D:Duo s t)(H:0≤hd∧hd≤60000)(i:qec t.seed sh)(v:L.length≤16)(F:la.length≤1000)(C:qa9 3 L=true)(m:qae 3 L=xs.map qes)(f:∀z∈xs.map qes,z.state≠9)(q:qae 4 (xs.map qes)=[qfh j n h e ow 9 pd]) :
  HearC (Ch.mk s ⟨sg,hd,aw,no,nt,f1,f2,rv⟩ x y L sh nw la) (qol t (hd+1) y x xs) (Ch.mk s ⟨sg,hd+1,aw,no,nt,f1,f2,true⟩ (qj2 (ow != pd) n x) (qj2 (!(ow != pd)) n y) [] sh nw la) [qkt s hd]:=by
 refine⟨qiz D.symm.chb ⟨by omega,by omega⟩,⟨by show (3:Int)≤6;decide,by show (6:Int)≤9;decide⟩,?_,qwz D i (by omega) v,by show la.length≤_;omega,(fun l E=>by rw[List.mem_singleton.1 E];exact qg4 D.chb D.sl D.sb ⟨by omega,by omega⟩),by show (1:Nat)≤_;decide,Nat.zero_le _⟩
 rw[qf6 (by show (6:Int)≠9;decide)]
 refine(qza (qiz D.symm.chb ⟨by omega,by omega⟩).may (by exact D.ch.symm) (by rfl)).trans ?_
 have e:=q5y (s:=s) (sg:=sg) (hd:=hd) (no:=no) (nt:=nt) (x:=x) (y:=y) (f1:=f1) (f2:=f2) (rv:=rv) (aw:=aw) (sh:=sh) (nw:=nw) (la:=la) (T:=qbi false t.key t.ch (hd+1) y x xs) H.1 C m f q rfl (by rw[D.k2,←D.ch];exact(qji _ _ _ _ _ _).symm)
 unfold qol qkt
 rw[←D.ch] at e ⊢
 refine e.trans ?_
 unfold qj2
 show (Ch.mk s _ (if (ow != pd)=true then _ else _) (if (ow != pd)=true then _ else _) [] sh nw la,_,(0:Int))=_
 cases ow<;>cases pd<;>rfl
theorem zbo(D:Duo s t)(I:0≤sg∧sg≤60000)(f:qec t.seed sh)(E:hd≤65535)(v:L.length≤16)(C:L1.length≤16)(H:la.length≤1000)(m:qae 2 L=L1)(q:∀z∈L1,z.state≠9) :
  HearC (Ch.mk s ⟨sg+1,hd,true,no,nt,f1,f2,rv⟩ x y L sh nw la) (qkt t sg) (Ch.mk s ⟨sg+1,hd,false,no,nt,f1,f2,rv⟩ x y L1 (qi3 (qkt t sg).hash (65535-sg) sh) nw la) []:=by
 refine⟨qg4 D.symm.chb D.tl D.tb ⟨by omega,by omega⟩,⟨by show (3:Int)≤7;decide,by show (7:Int)≤9;decide⟩,?_,qwz D f E v,by show la.length≤_;omega,(fun l F=>by cases F),Nat.zero_le _,by show L1.length≤_;omega⟩
 rw[qf6 (by show (7:Int)≠9;decide)]
 refine(qzb (qg4 D.symm.chb D.tl D.tb ⟨by omega,by omega⟩).may (by exact D.ch.symm) (by rfl)).trans ?_
 have e:=zbs (s:=s) (hd:=hd) (no:=no) (nt:=nt) (x:=x) (y:=y) (f1:=f1) (f2:=f2) (rv:=rv) (nw:=nw) (la:=la) (ch:=t.ch) (q5z (h:=t.seed) (i:=65535-sg) (ps:=sh) (qsp (by omega) (by omega)) f) m q
 exact congrArg (fun p:Ch × Int=>(p.1,([]:List MsgV),p.2)) e
theorem q00(D:Duo s t)(E:0≤sg∧sg≤60000)(f:qec t.seed sh)(v:hd≤65535)(q:L.length≤16)(C:la.length≤1000)(m:qae 2 L=[qfh j n h e ow 9 pd]) :
  HearC (Ch.mk s ⟨sg+1,hd,true,no,nt,f1,f2,rv⟩ x y L sh nw la) (qkt t sg) (Ch.mk s ⟨sg+1,hd,false,no,nt,f1,f2,rv⟩ (qj2 (ow != pd) n x) (qj2 (!(ow != pd)) n y) [] (qi3 (qkt t sg).hash (65535-sg) sh) nw la) []:=by
 refine⟨qg4 D.symm.chb D.tl D.tb ⟨by omega,by omega⟩,⟨by show (3:Int)≤7;decide,by show (7:Int)≤9;decide⟩,?_,qwz D f v q,by show la.length≤_;omega,(fun l z=>by cases z),Nat.zero_le _,Nat.zero_le _⟩
 rw[qf6 (by show (7:Int)≠9;decide)]
 refine(qzb (qg4 D.symm.chb D.tl D.tb ⟨by omega,by omega⟩).may (by exact D.ch.symm) (by rfl)).trans ?_
 have e:=q5x (s:=s) (hd:=hd) (no:=no) (nt:=nt) (x:=x) (y:=y) (f1:=f1) (f2:=f2) (rv:=rv) (nw:=nw) (la:=la) (ch:=t.ch) (q5z (h:=t.seed) (i:=65535-sg) (ps:=sh) (qsp (by omega) (by omega)) f) m rfl
 refine(congrArg (fun p:Ch × Int=>(p.1,([]:List MsgV),p.2)) e).trans ?_
 unfold qj2
 show (Ch.mk s _ (if (ow != pd)=true then _ else _) (if (ow != pd)=true then _ else _) [] _ nw la,_,(0:Int))=_
 cases ow<;>cases pd<;>rfl
theorem q5l(D:Duo s t)(f:qec t.seed sh):qec t.seed (qi3 (qkt t sg).hash (65535-sg) sh):=q50 D.tb f
theorem qxe(h:Vector Int 32):qa8 h.toList=h:=by
 unfold qa8;rw[dif_pos (by simp)];rfl
theorem zcw(D:Duo s t)(I:1≤n∧n≤1125899906842624)(H:0≤j∧j≤60000)(J:n≤y)(F:1≤e∧e≤1073741824)(v:∀b∈h.toList,0≤b∧b≤255)(i:qec t.seed sh)(z:hd≤65535)(E:la.length≤1000) :
  HearC (Ch.mk s ⟨sg,hd,aw,no,j,f1,false,rv⟩ x y [] sh nw la) (qwy t j n h e) (Ch.mk s ⟨sg,hd,aw,no,j+1,f1,false,rv⟩ x (y-n) [qfh j n h e false 0 false] sh nw la) []:=by
 have f:SayOk (qwy t j n h e):=qok D.symm.chb ⟨by omega,by omega⟩ ⟨by omega,by omega⟩ v ⟨by omega,by omega⟩
 refine⟨f,⟨by show (3:Int)≤3;decide,by show (3:Int)≤9;decide⟩,?_,qwz D i z (Nat.zero_le _),by show la.length≤_;omega,(fun l C=>by cases C),Nat.zero_le _,by show (1:Nat)≤_;decide⟩
 rw[qf6 (by show (3:Int)≠9;decide)]
 refine(q88 f.may (by exact D.ch.symm) (by rfl)).trans ?_
 have m:qa6 (Ch.mk s ⟨sg,hd,aw,no,j,f1,false,rv⟩ x y [] sh nw la) (qwy t j n h e)=0:=by
  unfold qa6;rw[if_neg (by show ¬(false=true);decide),if_neg (by show ¬(n=0);omega),if_neg (by show ¬(j≠j);omega),if_neg (by show ¬(e=0);omega),if_neg (by show ¬(8≤0);decide),if_neg (by show ¬(y<n);omega)]
 have a:(Ch.mk s ⟨sg,hd,aw,no,j,f1,false,rv⟩ x y [] sh nw la).added (qwy t j n h e)=Ch.mk s ⟨sg,hd,aw,no,j+1,f1,false,rv⟩ x (y-n) [qfh j n h e false 0 false] sh nw la:=by
  show (Ch.mk s ⟨sg,hd,aw,no,IntKind.u64.wrap (j+1),f1,false,rv⟩ x (y-n) [⟨⟨j,n,qa8 h.toList,e⟩,false,0,false⟩] sh nw la)=_;rw[qxe,qgs (by omega) (by omega)];rfl
 have q:(Ch.mk s ⟨sg,hd,aw,no,j,f1,false,rv⟩ x y [] sh nw la).hearAdd (qwy t j n h e)=(Ch.mk s ⟨sg,hd,aw,no,j+1,f1,false,rv⟩ x (y-n) [qfh j n h e false 0 false] sh nw la,0):=by
  unfold Ch.hearAdd;rw[if_pos m,a]
 exact congrArg (fun p:Ch × Int=>(p.1,([]:List MsgV),p.2)) q
theorem qkn:qde ow j [qfh j n h e ow 4 false]=some (0,qfh j n h e ow 4 false):=by
 unfold qde;have:qf1 ow j (qfh j n h e ow 4 false)=true:=by simp[qf1,qfh]
 simp[List.findIdx?_cons,this]
theorem zcy(D:Duo s t){k:CountsV}(I:0≤j∧j≤60000)(H:p.length=32)(v:qbm p)(F:qeh p h.toList=true)(i:qec t.seed sh)(z:k.heard≤65535)(E:la.length≤1000) :
  HearC (Ch.mk s k x y [qfh j n h e true 4 false] sh nw la) (qfa t j p) (Ch.mk s k x y [qfh j n h e true 5 true] sh nw la) []:=by
 have f:SayOk (qfa t j p):=qt5 D.symm.chb ⟨by omega,by omega⟩ H v
 refine⟨f,⟨by show (3:Int)≤4;decide,by show (4:Int)≤9;decide⟩,?_,qwz D i z (by show (1:Nat)≤_;decide),by show la.length≤_;omega,(fun l C=>by cases C),Nat.zero_le _,by show (1:Nat)≤_;decide⟩
 rw[qf6 (by show (4:Int)≠9;decide)]
 refine(q89 f.may (by exact D.ch.symm) (by rfl)).trans ?_
 have q:=qky (c:=Ch.mk s k x y [qfh j n h e true 4 false] sh nw la) (m:=qfa t j p) qkn
 rw[if_pos (by exact F)] at q
 rw[q]
 rfl
theorem zcx(D:Duo s t){k:CountsV}(E:0≤j∧j≤60000)(C:0≤r∧r≤65535)(i:qec t.seed sh)(q:k.heard≤65535)(z:la.length≤1000) :
  HearC (Ch.mk s k x y [qfh j n h e true 4 false] sh nw la) (qg3 t j r) (Ch.mk s k x y [qfh j n h e true 5 false] sh nw la) []:=by
 have f:SayOk (qg3 t j r):=qt4 D.symm.chb ⟨by omega,by omega⟩ C
 refine⟨f,⟨by show (3:Int)≤5;decide,by show (5:Int)≤9;decide⟩,?_,qwz D i q (by show (1:Nat)≤_;decide),by show la.length≤_;omega,(fun l v=>by cases v),Nat.zero_le _,by show (1:Nat)≤_;decide⟩
 rw[qf6 (by show (5:Int)≠9;decide)]
 refine(q9a f.may (by exact D.ch.symm) (by rfl)).trans ?_
 have m:(Ch.mk s k x y [qfh j n h e true 4 false] sh nw la).hearFail (qg3 t j r)=((Ch.mk s k x y [qfh j n h e true 4 false] sh nw la).removed 0 (qfh j n h e true 4 false) false,0):=by
  unfold Ch.hearFail;show (match qde true j [qfh j n h e true 4 false] with | none=>_ | some p=>_)=_;rw[qkn]
 rw[m]
 rfl
end
structure En where
 c:Ch
 t:Nat
 wt:Bool
 w:List MsgV
 o:List MsgV
 es:List EvV
structure StE(A:En)(n:Nat)(l:Lk)(way:ByteArray)(es:List EvV):Prop where
 l:LkC l A.c A.t A.wt (qaq A.o ⟨#[]⟩) ⟨#[]⟩ n
 way:way=qaq A.w ⟨#[]⟩
 es:es=A.es
 sw:∀m∈A.w,SayOk m
 so:∀m∈A.o,SayOk m
 lw:A.w.length≤200
 lo:A.o.length≤200
structure StP(A B:En)(n:Nat)(P:Pw):Prop where
 a:StE A n (P.l 0) (P.way 0) (P.es 0)
 b:StE B n (P.l 1) (P.way 1) (P.es 1)
 bad:P.bad=false
 n:n≤900000
theorem StE.mono{A:En}{n m:Nat}{l:Lk}{way:ByteArray}{es:List EvV}(h:StE A n l way es)(f:n≤m):StE A m l way es:=⟨h.l.mono f,h.way,h.es,h.sw,h.so,h.lw,h.lo⟩
theorem qbw{M:List MsgV}(h:∀m∈M,SayOk m)(f:M.length≤1000):(qaq M ⟨#[]⟩).size≤2000000:=by
 have:=qhk ⟨#[]⟩ M h ⟨#[]⟩;have e:(⟨#[]⟩:ByteArray).size=0:=rfl;omega
theorem q83(s:ByteArray):s.extract 0 s.size=s:=bx (by rw[qr4,List.drop_zero,Nat.sub_zero,List.take_of_length_le (by rw[qjm];exact Nat.le_refl _)])
theorem q84(s:ByteArray):s.extract s.size s.size=⟨#[]⟩:=bx (by rw[qr4,Nat.sub_self,List.take_zero])
def En.heard(A:En)(c:Ch)(wt:Bool)(es:List EvV)(s:List MsgV):En:= {A with c:=c,wt:=wt,es:=es,w:=[],o:=A.o++s}
def En.goes(A B:En):En:= {A with o:=[],w:=A.w++B.o}
theorem StP.flowOk{A B:En}{n:Nat}{P:Pw}(h:StP A B n P):FlowOk P:=by
 refine⟨fun k f=> ?_,fun k f=> ?_⟩
 ·rcases (by omega:k=0∨k=1) with rfl | rfl
  ·exact h.a.l.dead
  ·exact h.b.l.dead
 ·have a1:=qbw h.a.sw (by have:=h.a.lw;omega);have a2:=qbw h.a.so (by have:=h.a.lo;omega);have b1:=qbw h.b.sw (by have:=h.b.lw;omega);have b2:=qbw h.b.so (by have:=h.b.lo;omega);rcases (by omega:k=0∨k=1) with rfl | rfl
  ·rw[h.a.way,h.a.l.out];omega
  ·rw[h.b.way,h.b.l.out];omega
theorem qq5(o:ByteArray)(M:List MsgV):o++qaq M ⟨#[]⟩=qaq M o:=(q2v M o).symm
theorem StP.flow{A B:En}{n:Nat}{P:Pw}(h:StP A B n P)(i:A.w.length+B.o.length≤200∧B.w.length+A.o.length≤200):StP (A.goes B) (B.goes A) n P.flow:=by
 have wa:P.flow.way 0=P.way 0++(P.l 1).out:=rfl;have wb:P.flow.way 1=P.way 1++(P.l 0).out:=rfl;refine⟨⟨h.a.l.outs,?_,h.a.es,?_,(fun m f=>by cases f),?_,Nat.zero_le _⟩,⟨h.b.l.outs,?_,h.b.es,?_,(fun m f=>by cases f),?_,Nat.zero_le _⟩,h.bad,h.n⟩
 ·rw[wa,h.a.way,h.b.l.out];show _=qaq (A.w++B.o) ⟨#[]⟩;rw[qfz,qq5]
 ·exact fun m f=>(List.mem_append.1 f).elim (h.a.sw m) (h.b.so m)
 ·show (A.w++B.o).length≤_;rw[List.length_append];omega
 ·rw[wb,h.b.way,h.a.l.out];show _=qaq (B.w++A.o) ⟨#[]⟩;rw[qfz,qq5]
 ·exact fun m f=>(List.mem_append.1 f).elim (h.b.sw m) (h.a.so m)
 ·show (B.w++A.o).length≤_;rw[List.length_append];omega
theorem StE.hears{A:En}{n:Nat}{l:Lk}{way:ByteArray}{es:List EvV}(h:StE A n l way es){c:Ch}{wt:Bool}{es':List EvV}{s:List MsgV}(q:HearL A.c A.wt A.es A.w c wt es' s)(E:A.o.length+s.length≤200)(C:n≤900000) :
  ∃L,Bts {l with rest:=l.rest++way.extract 0 way.size} es L es' 0∧StE (A.heard c wt es' s) (n+500) L (way.extract way.size way.size) es':=by
 have i:=h.l.comes (way.extract 0 way.size)
 have e:(⟨#[]⟩:ByteArray)++way.extract 0 way.size=qaq A.w ⟨#[]⟩:=by
  rw[q83,←h.way];exact ByteArray.empty_append
 rw[e] at i
 have z:=h.lw
 obtain⟨L,v,r⟩:=q8q q i (by omega)
 rw[h.es]
 refine⟨L,v,?_,q84 _,rfl,(fun m f=>by cases f),?_,Nat.zero_le _,?_⟩
 ·show LkC L c A.t wt (qaq (A.o++s) ⟨#[]⟩) ⟨#[]⟩ (n+500);rw[qfz];exact r.mono (by omega)
 ·exact fun m f=>(List.mem_append.1 f).elim (h.so m) (q.say.2 m)
 ·show (A.o++s).length≤_;rw[List.length_append];omega
theorem StP.come0{A B:En}{n:Nat}{P:Pw}(h:StP A B n P){c:Ch}{wt:Bool}{es':List EvV}{s:List MsgV}(r:HearL A.c A.wt A.es A.w c wt es' s)(I:A.o.length+s.length≤100∧B.o.length≤100∧B.w.length≤100)(H:n≤800000) :
  ∃L,ComeOk P 0 (P.way 0).size L es' 0∧StP ((A.heard c wt es' s).goes B) (B.goes (A.heard c wt es' s)) (n+500) (P.all 0 L es' 0):=by
 obtain⟨L,q,i⟩:=h.a.hears r (by omega) (by omega)
 have f:=h.flowOk
 have a1:=qbw h.a.sw (by have:=h.a.lw;omega)
 have a2:=qbw h.a.so (by have:=h.a.lo;omega)
 have b1:=qbw h.b.sw (by have:=h.b.lw;omega)
 have b2:=qbw h.b.so (by have:=h.b.lo;omega)
 have C:=qbw i.so (by have:=i.lo;omega)
 have z:StP (A.heard c wt es' s) B (n+500) (P.came 0 ((P.way 0).extract (P.way 0).size (P.way 0).size) L es' 0):=by
  have m:(P.bad || (0:Int) != 0)=false:=by rw[h.bad];rfl
  exact⟨i,(h.b.mono (by omega)),m,by omega⟩
 refine⟨L,⟨f.dead,h.a.l.broken,by rw[h.a.l.rest];rfl,by rw[h.a.l.rest];exact Nat.zero_le _,?_,?_,Nat.le_refl _,q,i.l.dead,by rw[i.l.out];omega⟩,z.flow ?_⟩
 ·intro j v;rcases (by omega:j=0∨j=1) with rfl | rfl
  ·rw[h.a.way];omega
  ·rw[h.b.way];omega
 ·intro j v;rcases (by omega:j=0∨j=1) with rfl | rfl
  ·rw[h.a.l.out];omega
  ·rw[h.b.l.out];omega
 ·have E:([]:List MsgV).length=0:=rfl;have F:(A.o++s).length=A.o.length+s.length:=List.length_append;exact⟨by show ([]:List MsgV).length+_≤_;omega,by show _+(A.o++s).length≤_;omega⟩
theorem StP.come1{A B:En}{n:Nat}{P:Pw}(h:StP A B n P){c:Ch}{wt:Bool}{es':List EvV}{s:List MsgV}(r:HearL B.c B.wt B.es B.w c wt es' s)(I:B.o.length+s.length≤100∧A.o.length≤100∧A.w.length≤100)(H:n≤800000) :
  ∃L,ComeOk P 1 (P.way 1).size L es' 0∧StP (A.goes (B.heard c wt es' s)) ((B.heard c wt es' s).goes A) (n+500) (P.all 1 L es' 0):=by
 obtain⟨L,q,i⟩:=h.b.hears r (by omega) (by omega)
 have f:=h.flowOk
 have a1:=qbw h.a.sw (by have:=h.a.lw;omega)
 have a2:=qbw h.a.so (by have:=h.a.lo;omega)
 have b1:=qbw h.b.sw (by have:=h.b.lw;omega)
 have b2:=qbw h.b.so (by have:=h.b.lo;omega)
 have C:=qbw i.so (by have:=i.lo;omega)
 have z:StP A (B.heard c wt es' s) (n+500) (P.came 1 ((P.way 1).extract (P.way 1).size (P.way 1).size) L es' 0):=by
  have m:(P.bad || (0:Int) != 0)=false:=by rw[h.bad];rfl
  exact⟨(h.a.mono (by omega)),i,m,by omega⟩
 refine⟨L,⟨f.dead,h.b.l.broken,by rw[h.b.l.rest];rfl,by rw[h.b.l.rest];exact Nat.zero_le _,?_,?_,Nat.le_refl _,q,i.l.dead,by rw[i.l.out];omega⟩,z.flow ?_⟩
 ·intro j v;rcases (by omega:j=0∨j=1) with rfl | rfl
  ·rw[h.a.way];omega
  ·rw[h.b.way];omega
 ·intro j v;rcases (by omega:j=0∨j=1) with rfl | rfl
  ·rw[h.a.l.out];omega
  ·rw[h.b.l.out];omega
 ·have E:([]:List MsgV).length=0:=rfl;have F:(B.o++s).length=B.o.length+s.length:=List.length_append;exact⟨by show _+(B.o++s).length≤_;omega,by show ([]:List MsgV).length+_≤_;omega⟩
theorem q9w{c:Ch}(z:0≤c.s.ch∧c.s.ch<4294967296)(E:0≤c.k.signed∧c.k.signed≤65535):(c.sign.2.2=0→SayOk c.sign.2.1)∧c.sign.2.1.hash.length=32:=by
 unfold Ch.sign;by_cases h:qek c=0
 ·rw[if_pos h];have C:c.k.signed≠65535:=by
   intro e;unfold qek at h;rw[if_pos e] at h;split at h
   ·omega
   ·split at h<;>omega
  have f:=qgr false c.s.key c.s.ch (c.k.signed+1) c.signing.loc c.signing.rem c.signing.xs;have i:=qpn false c.s.key c.s.ch (c.k.signed+1) c.signing.loc c.signing.rem c.signing.xs;have q:∃T:List Int,T.length=32∧qbm T∧(qcs c).on c.s.ch=⟨6,c.s.ch,0,0,T,0,c.k.signed+1⟩:=by
   unfold qcs;generalize qbi false c.s.key c.s.ch (c.k.signed+1) c.signing.loc c.signing.rem c.signing.xs=T at f i;exact⟨T,f,i,rfl⟩
  clear f i;obtain⟨T,f,i,q⟩:=q;have r:((qcs c).on c.s.ch).hash.length=32:=by
   rw[q];exact f
  have v:SayOk ((qcs c).on c.s.ch):=by
   rw[q];exact qhj (by decide) z (by decide) (by decide) f i (by decide) ⟨by omega,by omega⟩ (qqw _ _ ⟨by omega,by omega⟩)
  clear q;generalize (qcs c).on c.s.ch=m at r v;exact⟨fun _=>v,r⟩
 ·rw[if_neg h];exact⟨fun e=>absurd e h,qm⟩
structure EndB(c:Ch):Prop where
 key:c.s.key.size≤100000000
 ch:0≤c.s.ch∧c.s.ch<4294967296
 sg:0≤c.k.signed∧c.k.signed≤65535
 news:c.news.length<1000000
 xs:c.xs.length≤16
def qih(t:Nat)(wt:Bool)(c c':Ch)(M:List MsgV):Prop:=EndB c∧(if wt=true∨(t+1)%3≠0 then c'=c∧M=[] else SignC c c' M)
def En.ticks(A:En)(c:Ch)(M:List MsgV):En:= {A with c:=c,t:=A.t+1,o:=A.o++M}
theorem StE.ticks{A:En}{n:Nat}{l:Lk}{way:ByteArray}{es:List EvV}(h:StE A n l way es){c':Ch}{M:List MsgV}(v:qih A.t A.wt A.c c' M)(T:A.o.length≤150)(S:n≤900000)(P:A.t<900000) :
  TickOk l A.t∧l.tickE A.t=0∧StE (A.ticks c' M) (n+1) (l.tick A.t) way es:=by
 obtain⟨r,v⟩:=v
 obtain⟨E,N⟩:=q9w r.ch r.sg
 have q:=h.l.c
 have L:TickOk l A.t:=⟨h.l.ok (by omega),h.l.ticks,by omega,by rw[q];exact E,by rw[q];exact N,by rw[q];exact r.key,by rw[q];exact r.ch,by rw[q];exact r.news,by rw[q];exact r.xs⟩
 refine⟨L,?_⟩
 have O:LkC ({l with ticks:=(A.t:Int)+1} : Lk) A.c ((A.t:Int)+1) A.wt (qaq A.o ⟨#[]⟩) ⟨#[]⟩ n:=⟨h.l.c,rfl,h.l.waits,h.l.out,h.l.rest,h.l.dead,h.l.broken,h.l.fused,h.l.off,h.l.many,h.l.len,h.l.outn⟩
 have i:(l.waits=true∨(A.t+1)%3≠0)↔(A.wt=true∨(A.t+1)%3≠0):=by rw[h.l.waits]
 have I:=O.mono (m:=n+1) (by omega)
 by_cases f:A.wt=true∨(A.t+1)%3≠0
 ·have F:l.tickE A.t=0:=by unfold Lk.tickE;rw[if_pos (i.2 f)]
  have H:l.tick A.t = {l with ticks:=(A.t:Int)+1} := by unfold Lk.tick;rw[if_pos (i.2 f)]
  rw[if_pos f] at v;obtain⟨rfl,rfl⟩:=v;rw[F,H];refine⟨rfl,?_,h.way,h.es,h.sw,?_,h.lw,?_⟩
  ·show LkC _ A.c ((A.t:Int)+1) A.wt (qaq (A.o++[]) ⟨#[]⟩) ⟨#[]⟩ (n+1);rw[List.append_nil];exact I
  ·exact fun m C=>(List.mem_append.1 C).elim (h.so m) (fun e=>by cases e)
  ·show (A.o++[]).length≤_;rw[List.append_nil];omega
 ·have F:l.tickE A.t=qlm A.c.sign.2.2:=by unfold Lk.tickE;rw[if_neg (fun e=>f (i.1 e)),q]
  have H:l.tick A.t=({l with ticks:=(A.t:Int)+1} : Lk).signs:=by unfold Lk.tick;rw[if_neg (fun e=>f (i.1 e))]
  rw[if_neg f] at v;have z:LkC (({l with ticks:=(A.t:Int)+1} : Lk).signs) A.c.sign.1 ((A.t:Int)+1) A.wt (if A.c.sign.2.2=0 then qaq A.o ⟨#[]⟩++qez A.c.sign.2.1 else qaq A.o ⟨#[]⟩) ⟨#[]⟩ (n+1):=by
   have:=O.acts (rec:=qw 4 1) (c':=A.c.sign.1) (m:=A.c.sign.2.1) (er:=A.c.sign.2.2) (by rw[qat];decide) E;unfold Lk.signs;show LkC (Lk.acts _ l.c.sign.1 (qw 4 1) l.c.sign.2.1 l.c.sign.2.2) _ _ _ _ _ _;rw[q];exact this
  rw[F,H];generalize ({l with ticks:=(A.t:Int)+1} : Lk).signs=l2 at z;rcases v.eq with ⟨m,J,rfl,C⟩ | ⟨J,rfl,rfl⟩
  ·rw[J] at z ⊢;refine⟨rfl,?_,h.way,h.es,h.sw,?_,h.lw,?_⟩
   ·show LkC l2 c' ((A.t:Int)+1) A.wt (qaq (A.o++[m]) ⟨#[]⟩) ⟨#[]⟩ (n+1);rw[qfz];exact z
   ·exact fun R K=>(List.mem_append.1 K).elim (h.so R) (fun e=>by rw[List.mem_singleton.1 e];exact C)
   ·show (A.o++[m]).length≤_;rw[List.length_append,List.length_singleton];omega
  ·rw[J] at z ⊢;refine⟨rfl,?_,h.way,h.es,h.sw,?_,h.lw,?_⟩
   ·show LkC l2 A.c ((A.t:Int)+1) A.wt (qaq (A.o++[]) ⟨#[]⟩) ⟨#[]⟩ (n+1);rw[List.append_nil];exact z
   ·exact fun m C=>(List.mem_append.1 C).elim (h.so m) (fun e=>by cases e)
   ·show (A.o++[]).length≤_;rw[List.append_nil];omega
structure RoundG(A B A' B':En):Prop where
 ex:∃a1 wta ea s0 b1 wtb eb s1 a2 Ma b2 Mb,HearL A.c A.wt A.es A.w a1 wta ea s0∧HearL B.c B.wt B.es (B.w++s0) b1 wtb eb s1∧qih A.t wta a1 a2 Ma∧qih B.t wtb b1 b2 Mb ∧
  s0.length≤30∧s1.length≤30∧Ma.length≤1∧Mb.length≤1∧A'=⟨a2,A.t+1,wta,s1++Mb,[],ea⟩∧B'=⟨b2,B.t+1,wtb,Ma,[],eb⟩
 oa:A.o=[]
 ob:B.o=[]
 wa:A.w.length≤40
 wb:B.w.length≤40
 ta:A.t<800000
 tb:B.t<800000
theorem StP.round{A B K L:En}{n:Nat}{P:Pw}(h:StP A B n P)(r:RoundG A B K L)(hn:n≤700000):∃Q,RoundOk P Q∧StP K L (n+1010) Q:=by
 obtain⟨a1,f,i,s0,b1,q,m,s1,a2,Ma,b2,Mb,W,X,Z,tB,l0,l1,lA,lB,rfl,rfl⟩:=r.ex;have oa:=r.oa;have ob:=r.ob;have wa:=r.wa;have wb:=r.wb;have z:([]:List MsgV).length=0:=rfl;obtain⟨C,I,N⟩:=h.come0 W (by rw[oa,ob];omega) (by omega);have S:(A.heard a1 f i s0).goes B=⟨a1,A.t,f,[],[],i⟩:=by
  show En.mk a1 A.t f ([]++B.o) [] i=_;rw[ob];rfl
 have T:B.goes (A.heard a1 f i s0)=⟨B.c,B.t,B.wt,B.w++s0,[],B.es⟩:=by
  show En.mk B.c B.t B.wt (B.w++(A.o++s0)) [] B.es=_;rw[oa];rfl
 rw[S,T] at N;have e2:(B.w++s0).length=B.w.length+s0.length:=List.length_append;obtain⟨L1,J,E⟩:=N.come1 (c:=b1) (wt:=q) (es':=m) (s:=s1) X ⟨by show 0+s1.length≤_;omega,Nat.zero_le _,Nat.zero_le _⟩ (by omega);have E:StP ⟨a1,A.t,f,s1,[],i⟩ ⟨b1,B.t,q,[],[],m⟩ (n+500+500) ((P.all 0 C i 0).all 1 L1 m 0):=E;obtain⟨t0,O,U⟩:=E.a.ticks (c':=a2) (M:=Ma) Z (Nat.zero_le _) (by omega) (by have:=r.ta;show A.t<_;omega);have v:StP ((⟨a1,A.t,f,s1,[],i⟩:En).ticks a2 Ma) ⟨b1,B.t,q,[],[],m⟩ (n+500+500+1) (((P.all 0 C i 0).all 1 L1 m 0).ticked 0 A.t):=by
  refine⟨U,E.b.mono (by omega),?_,by omega⟩;show (_ != 0 || ((P.all 0 C i 0).all 1 L1 m 0).bad)=false;rw[O,E.bad];rfl
 obtain⟨Y,R,V⟩:=v.b.ticks (c':=b2) (M:=Mb) tB (Nat.zero_le _) (by omega) (by have:=r.tb;show B.t<_;omega);have F:StP ((⟨a1,A.t,f,s1,[],i⟩:En).ticks a2 Ma) ((⟨b1,B.t,q,[],[],m⟩:En).ticks b2 Mb) (n+500+500+1+1) ((((P.all 0 C i 0).all 1 L1 m 0).ticked 0 A.t).ticked 1 B.t):=by
  refine⟨v.a.mono (by omega),V,?_,by omega⟩;show (_ != 0 || (((P.all 0 C i 0).all 1 L1 m 0).ticked 0 A.t).bad)=false;rw[R,v.bad];rfl
 have H:=F.flow ⟨by show s1.length+([]++Mb).length≤_;rw[List.nil_append];omega,by show 0+([]++Ma).length≤_;rw[List.nil_append];omega⟩;refine⟨_,⟨C,i,0,L1,m,0,A.t,B.t,I,J,t0,Y,F.flowOk,rfl⟩,?_⟩;exact⟨H.a.mono (by omega),H.b.mono (by omega),H.bad,by omega⟩
structure Pay where
 s:SetupV
 t:SetupV
 sa:Int
 sb:Int
 j:Int
 n:Int
 h:Vector Int 32
 e:Int
 x:Int
 y:Int
 sha:List KeptV
 shb:List KeptV
 la:List MsgV
 lb:List MsgV
 nt:Int
 no:Int
 ra:Bool
 rb:Bool
structure PayOk(q:Pay):Prop where
 D:Duo q.s q.t
 sa:0≤q.sa∧q.sa≤50000
 sb:0≤q.sb∧q.sb≤50000
 j:0≤q.j∧q.j≤50000
 n:1≤q.n∧q.n≤1125899906842624
 h:∀b∈q.h.toList,0≤b∧b≤255
 e:1≤q.e∧q.e≤1073741824
 x:0≤q.x
 sha:qec q.t.seed q.sha
 shb:qec q.s.seed q.shb
 la:q.la.length≤900
 lb:q.lb.length≤900
section
variable (q:Pay)(pd:Bool)(F:MsgV)
def Pay.I(ow:Bool)(st:Int)(pd:Bool):Live:=qfh q.j q.n q.h q.e ow st pd
def Pay.add:MsgV:=qwy q.s q.j q.n q.h q.e
noncomputable def Pay.s1:MsgV:=qol q.s (q.sa+1) q.x q.y [q.I true 1 false]
noncomputable def Pay.s2:MsgV:=qol q.t (q.sb+1) q.y q.x [q.I false 3 false]
noncomputable def Pay.s3:MsgV:=qol q.t (q.sb+1+1) q.y q.x [q.I false 6 pd]
noncomputable def Pay.s4:MsgV:=qol q.s (q.sa+1+1) q.x q.y [q.I true 8 pd]
def Pay.r1:MsgV:=qkt q.t q.sa
def Pay.r2:MsgV:=qkt q.s q.sb
def Pay.r3:MsgV:=qkt q.s (q.sb+1)
def Pay.r4:MsgV:=qkt q.t (q.sa+1)
def Pay.ha1:List KeptV:=qi3 q.r1.hash (65535-q.sa) q.sha
def Pay.hb1:List KeptV:=qi3 q.r2.hash (65535-q.sb) q.shb
def Pay.hb2:List KeptV:=qi3 q.r3.hash (65535-(q.sb+1)) q.hb1
def Pay.ha2:List KeptV:=qi3 q.r4.hash (65535-(q.sa+1)) q.ha1
noncomputable def Pay.la1:List MsgV:=[q.add]++[q.s1]
noncomputable def Pay.lb1:List MsgV:=[]++[q.s2]
noncomputable def Pay.lb2:List MsgV:=[F]++[q.s3 pd]
noncomputable def Pay.la2:List MsgV:=[]++[q.s4 pd]
def Pay.a0:Ch:=⟨q.s,⟨q.sa,q.sb,false,q.j+1,q.nt,false,false,q.ra⟩,q.x,q.y,[q.I true 0 false],q.sha,[q.add],q.la⟩
def Pay.b0:Ch:=⟨q.t,⟨q.sb,q.sa,false,q.no,q.j,false,false,q.rb⟩,q.y,q.x+q.n,[],q.shb,[],q.lb⟩
def Pay.b1:Ch:=⟨q.t,⟨q.sb,q.sa,false,q.no,q.j+1,false,false,q.rb⟩,q.y,q.x,[q.I false 0 false],q.shb,[],q.lb⟩
noncomputable def Pay.a1:Ch:=⟨q.s,⟨q.sa+1,q.sb,true,q.j+1,q.nt,false,false,false⟩,q.x,q.y,[q.I true 1 false],q.sha,[],q.la1⟩
def Pay.b2:Ch:=⟨q.t,⟨q.sb,q.sa+1,false,q.no,q.j+1,false,false,true⟩,q.y,q.x,[q.I false 2 false],q.shb,[],q.lb⟩
noncomputable def Pay.a2:Ch:=⟨q.s,⟨q.sa+1,q.sb,false,q.j+1,q.nt,false,false,false⟩,q.x,q.y,[q.I true 2 false],q.ha1,[],q.la1⟩
noncomputable def Pay.b3:Ch:=⟨q.t,⟨q.sb+1,q.sa+1,true,q.no,q.j+1,false,false,false⟩,q.y,q.x,[q.I false 3 false],q.shb,[],q.lb1⟩
noncomputable def Pay.a3:Ch:=⟨q.s,⟨q.sa+1,q.sb+1,false,q.j+1,q.nt,false,false,true⟩,q.x,q.y,[q.I true 4 false],q.ha1,[],q.la1⟩
noncomputable def Pay.b4:Ch:=⟨q.t,⟨q.sb+1,q.sa+1,false,q.no,q.j+1,false,false,false⟩,q.y,q.x,[q.I false 4 false],q.hb1,[],q.lb1⟩
noncomputable def Pay.b5:Ch:=⟨q.t,⟨q.sb+1,q.sa+1,false,q.no,q.j+1,false,false,false⟩,q.y,q.x,[q.I false 5 pd],q.hb1,[F],q.lb1⟩
noncomputable def Pay.a5:Ch:=⟨q.s,⟨q.sa+1,q.sb+1,false,q.j+1,q.nt,false,false,true⟩,q.x,q.y,[q.I true 5 pd],q.ha1,[],q.la1⟩
noncomputable def Pay.b6:Ch:=⟨q.t,⟨q.sb+1+1,q.sa+1,true,q.no,q.j+1,false,false,false⟩,q.y,q.x,[q.I false 6 pd],q.hb1,[],q.lb2 pd F⟩
noncomputable def Pay.a6:Ch:=⟨q.s,⟨q.sa+1,q.sb+1+1,false,q.j+1,q.nt,false,false,true⟩,q.x,q.y,[q.I true 7 pd],q.ha1,[],q.la1⟩
noncomputable def Pay.b7:Ch:=⟨q.t,⟨q.sb+1+1,q.sa+1,false,q.no,q.j+1,false,false,false⟩,q.y,q.x,[q.I false 7 pd],q.hb2,[],q.lb2 pd F⟩
noncomputable def Pay.a7:Ch:=⟨q.s,⟨q.sa+1+1,q.sb+1+1,true,q.j+1,q.nt,false,false,false⟩,q.x,q.y,[q.I true 8 pd],q.ha1,[],q.la2 pd⟩
noncomputable def Pay.b8:Ch:=⟨q.t,⟨q.sb+1+1,q.sa+1+1,false,q.no,q.j+1,false,false,true⟩,qj2 (false != pd) q.n q.y,qj2 (!(false != pd)) q.n q.x,[],q.hb2,[],q.lb2 pd F⟩
noncomputable def Pay.a8:Ch:=⟨q.s,⟨q.sa+1+1,q.sb+1+1,false,q.j+1,q.nt,false,false,false⟩,qj2 (true != pd) q.n q.x,qj2 (!(true != pd)) q.n q.y,[],q.ha2,[],q.la2 pd⟩
end
section
variable {q:Pay}{pd:Bool}{F:MsgV}{p:List Int}{r:Int}
theorem stI{ow:Bool}{st:Int}(h:st≠9):∀z∈[q.I ow st pd],z.state≠9:=by
 intro z f;rw[List.mem_singleton.1 f];exact h
theorem Pay.h0(k:PayOk q):HearC q.b0 q.add q.b1 []:=by
 have h:=zcw (s:=q.t) (t:=q.s) (sg:=q.sb) (hd:=q.sa) (aw:=false) (no:=q.no) (f1:=false) (rv:=q.rb) (x:=q.y) (y:=q.x+q.n) (nw:=[]) (la:=q.lb) k.D.symm k.n ⟨k.j.1,by have:=k.j.2;omega⟩ (by have:=k.x;omega) k.e k.h k.shb (by have:=k.sa;omega) (by have:=k.lb;omega);rw[show q.x+q.n-q.n=q.x by omega] at h;exact h
theorem Pay.g1(k:PayOk q):SignC q.a0 q.a1 [q.s1] :=
 qy8 (L1:=[q.I true 1 false]) k.D ⟨k.sa.1,by have:=k.sa.2;omega⟩ rfl rfl (stI (by decide)) (by show (1:Nat)≤_;decide) (by show (1:Nat)≤_;decide)
theorem Pay.h1(k:PayOk q):HearC q.b1 q.s1 q.b2 [q.r1] :=
 zbp (xs:=[q.I true 1 false]) (L2:=[q.I false 2 false]) k.D.symm ⟨k.sa.1,by have:=k.sa.2;omega⟩ k.shb (by show (1:Nat)≤_;decide) (by show (1:Nat)≤_;decide) (by have:=k.lb;omega) rfl rfl (stI (st:=1) (by decide)) rfl (stI (by decide))
theorem Pay.h2(k:PayOk q):HearC q.a1 q.r1 q.a2 [] :=
 zbo (L1:=[q.I true 2 false]) k.D ⟨k.sa.1,by have:=k.sa.2;omega⟩ k.sha (by have:=k.sb.2;omega) (by show (1:Nat)≤_;decide) (by show (1:Nat)≤_;decide) (by show (2:Nat)≤_;decide) rfl (stI (by decide))
theorem Pay.g2(k:PayOk q):SignC q.b2 q.b3 [q.s2] :=
 qy8 (L1:=[q.I false 3 false]) k.D.symm ⟨k.sb.1,by have:=k.sb.2;omega⟩ rfl rfl (stI (by decide)) (by show (0:Nat)≤_;decide) (by show (1:Nat)≤_;decide)
theorem PayOk.ta(k:PayOk q):qec q.t.seed q.ha1:=q5l k.D k.sha
theorem PayOk.tb(k:PayOk q):qec q.s.seed q.hb1:=q5l k.D.symm k.shb
theorem PayOk.tb2(k:PayOk q):qec q.s.seed q.hb2:=q5l k.D.symm k.tb
theorem Pay.h3(k:PayOk q):HearC q.a2 q.s2 q.a3 [q.r2] :=
 zbp (xs:=[q.I false 3 false]) (L2:=[q.I true 4 false]) k.D ⟨k.sb.1,by have:=k.sb.2;omega⟩ k.ta (by show (1:Nat)≤_;decide) (by show (1:Nat)≤_;decide) (by show (2:Nat)≤_;decide) rfl rfl (stI (st:=3) (by decide)) rfl (stI (by decide))
theorem Pay.h4(k:PayOk q):HearC q.b3 q.r2 q.b4 [] :=
 zbo (L1:=[q.I false 4 false]) k.D.symm ⟨k.sb.1,by have:=k.sb.2;omega⟩ k.shb (by have:=k.sa.2;omega) (by show (1:Nat)≤_;decide) (by show (1:Nat)≤_;decide) (by show (1:Nat)≤_;decide) rfl (stI (by decide))
theorem Pay.h5p(k:PayOk q)(m:p.length=32)(f:qbm p)(i:qeh p q.h.toList=true):HearC q.a3 (qfa q.t q.j p) (q.a5 true) [] :=
 zcy k.D ⟨k.j.1,by have:=k.j.2;omega⟩ m f i k.ta (by show q.sb+1≤_;have:=k.sb.2;omega) (by show (2:Nat)≤_;decide)
theorem Pay.h5f(k:PayOk q)(f:0≤r∧r≤65535):HearC q.a3 (qg3 q.t q.j r) (q.a5 false) [] :=
 zcx k.D ⟨k.j.1,by have:=k.j.2;omega⟩ f k.ta (by show q.sb+1≤_;have:=k.sb.2;omega) (by show (2:Nat)≤_;decide)
theorem Pay.g3(k:PayOk q):SignC (q.b5 pd F) (q.b6 pd F) [q.s3 pd] :=
 qy8 (L1:=[q.I false 6 pd]) k.D.symm ⟨by have:=k.sb.1;omega,by have:=k.sb.2;omega⟩ rfl rfl (stI (by decide)) (by show (1:Nat)≤_;decide) (by show (1:Nat)≤_;decide)
theorem Pay.h6(k:PayOk q):HearC (q.a5 pd) (q.s3 pd) (q.a6 pd) [q.r3] :=
 zbp (xs:=[q.I false 6 pd]) (L2:=[q.I true 7 pd]) k.D ⟨by have:=k.sb.1;omega,by have:=k.sb.2;omega⟩ k.ta (by show (1:Nat)≤_;decide) (by show (1:Nat)≤_;decide) (by show (2:Nat)≤_;decide) rfl rfl (stI (st:=6) (by decide)) rfl (stI (by decide))
theorem Pay.h7(k:PayOk q):HearC (q.b6 pd F) q.r3 (q.b7 pd F) [] :=
 zbo (L1:=[q.I false 7 pd]) k.D.symm ⟨by have:=k.sb.1;omega,by have:=k.sb.2;omega⟩ k.tb (by have:=k.sa.2;omega) (by show (1:Nat)≤_;decide) (by show (1:Nat)≤_;decide) (by show (2:Nat)≤_;decide) rfl (stI (by decide))
theorem Pay.g4(k:PayOk q):SignC (q.a6 pd) (q.a7 pd) [q.s4 pd] :=
 qy8 (L1:=[q.I true 8 pd]) k.D ⟨by have:=k.sa.1;omega,by have:=k.sa.2;omega⟩ rfl rfl (stI (by decide)) (by show (0:Nat)≤_;decide) (by show (1:Nat)≤_;decide)
theorem Pay.h8(k:PayOk q):HearC (q.b7 pd F) (q.s4 pd) (q.b8 pd F) [q.r4] :=
 q01 (xs:=[q.I true 8 pd]) (j:=q.j) (n:=q.n) (h:=q.h) (e:=q.e) (ow:=false) (pd:=pd) k.D.symm ⟨by have:=k.sa.1;omega,by have:=k.sa.2;omega⟩ k.tb2 (by show (1:Nat)≤_;decide) (by show (2:Nat)≤_;decide) rfl rfl (stI (st:=8) (by decide)) rfl
theorem Pay.h9(k:PayOk q):HearC (q.a7 pd) q.r4 (q.a8 pd) [] :=
 q00 (j:=q.j) (n:=q.n) (h:=q.h) (e:=q.e) (ow:=true) (pd:=pd) k.D ⟨by have:=k.sa.1;omega,by have:=k.sa.2;omega⟩ k.ta (by have:=k.sb.2;omega) (by show (1:Nat)≤_;decide) (by show (1:Nat)≤_;decide) rfl
end
end Go.Proofs.YtfmkdoachjgjbaaGreatDoor
