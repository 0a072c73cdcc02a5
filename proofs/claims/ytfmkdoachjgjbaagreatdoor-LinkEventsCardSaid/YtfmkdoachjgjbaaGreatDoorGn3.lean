/-
  One payment between two links: rests, round by round (it comes; it is settled).
-/
import Derived.Test.YtfmkdoachjgjbaaGreatDoorMee
set_option linter.unusedVariables false
set_option linter.unusedSimpArgs false
namespace Go.Proofs.YtfmkdoachjgjbaaGreatDoor
open Go.RowKit
section
variable {q:Pay}{pd:Bool}{F:MsgV}{p:List Int}{r:Int}{es:List EvV}
theorem qwi{bs:List Live}{ow:Bool}{st:Int}(h:ow=true∨st≠4):qfg bs [q.I ow st pd]=[]:=by
 unfold qfg;have e:qgz bs (q.I ow st pd)=false:=by
  unfold qgz;rcases h with rfl | h
  ·rfl
  ·have f:((q.I ow st pd).state==4)=false:=by
    show (st==4)=false;simpa using h
   rw[f];simp
 simp[e]
theorem qwq{ow f:Bool}{st i:Int} : qg0 [q.I ow st pd] [q.I ow i f]=[]:=by
 unfold qg0;have e:qiy [q.I ow i f] (q.I ow st pd)=false:=by
  unfold qiy;cases ow
  ·rfl
  ·have:([q.I true i f]:List Live).findIdx? (qcp true (q.I true st pd).h.id)=some 0:=by
    have:qcp true (q.I true st pd).h.id (q.I true i f)=true:=by simp[qcp,Pay.I,qfh]
    simp[List.findIdx?_cons,this]
   rw[this];simp
 simp[e]
theorem zdo{bs:List Live} : qfg bs []=[]:=rfl
theorem qdh{m:MsgV}{wt:Bool}{f i:List Live}(v:m.kind≠4)(z:m.kind≠9)(C:qfg f i=[])(E:qg0 f i=[]):es++qdk m wt f i=es:=by
 unfold qdk;rw[if_neg v,if_neg z,C,E];simp
theorem q0b:qfg [q.I false 3 false] [q.I false 4 false]=[evC (q.I false 4 false)]:=by
 unfold qfg;have e:qgz [q.I false 3 false] (q.I false 4 false)=true:=by
  unfold qgz;have:([q.I false 3 false]:List Live).findIdx? (qcp false (q.I false 4 false).h.id)=some 0:=by
   have:qcp false (q.I false 4 false).h.id (q.I false 3 false)=true:=by simp[qcp,Pay.I,qfh]
   simp[List.findIdx?_cons,this]
  rw[this];rfl
 simp[e]
theorem qws:qg0 [q.I true 8 pd] []=if pd=true then [] else [evF (q.I true 8 pd)]:=by
 unfold qg0;cases pd<;>rfl
theorem q64{s:SetupV} : qmw (qfa s q.j p) [q.I true 4 false]=[evP (q.I true 4 false) p]:=by
 unfold qmw;have:([q.I true 4 false]:List Live).findIdx? (qcp true (qfa s q.j p).id)=some 0:=by
  have:qcp true (qfa s q.j p).id (q.I true 4 false)=true:=by simp[qcp,Pay.I,qfh,qfa]
  simp[List.findIdx?_cons,this]
 rw[this];rfl
theorem qed{c c':Ch}{m:MsgV}{f:List MsgV}{es':List EvV}(h:HearC c m c' f)(i:es.length≤10000)(v:es++qdk m false c.xs c'.xs=es'):HearL c false es [m] c' false es' f:=by
 have:=HearL.one (wt:=false) (es:=es) h i;rw[v] at this;have e:qrg m false=false:=by unfold qrg;split<;>rfl
 rwa [e] at this
theorem qy6{s:SetupV}{k:CountsV}{x y:Int}{L:List Live}{sh:List KeptV}{nw la:List MsgV}(v:s.key.size≤1000)(f:0≤s.ch∧s.ch<4294967296)(i:0≤k.signed∧k.signed≤65535)(z:nw.length≤10)(m:L.length≤10):EndB ⟨s,k,x,y,L,sh,nw,la⟩ :=
 ⟨by show s.key.size≤_;omega,f,i,by show nw.length<_;omega,by show L.length≤_;omega⟩
theorem qc2{t:Nat}{c:Ch}(h:EndB c)(f:(t+1)%3≠0):qih t false c c []:=⟨h,by rw[if_pos (.inr f)];exact⟨rfl,rfl⟩⟩
theorem qe6{t:Nat}{c c':Ch}{M:List MsgV}(h:EndB c)(i:(t+1)%3=0)(f:SignC c c' M):qih t false c c' M:=⟨h,by rw[if_neg (by simp[i])];exact f⟩
theorem qln{t:Nat}{c:Ch}(h:EndB c)(i:SignC c c []):qih t false c c []:=by
 by_cases f:(t+1)%3=0
 ·exact qe6 h f i
 ·exact qc2 h f
theorem rg{a a1 a2 b b1 b2:Ch}{ta tb:Nat}{wa wb s0 s1 Ma Mb:List MsgV}{ea ea1 eb f:List EvV}(i:HearL a false ea wa a1 false ea1 s0)(m:HearL b false eb (wb++s0) b1 false f s1)(I:qih ta false a1 a2 Ma)(J:qih tb false b1 b2 Mb)
  (C:s0.length≤30) (l1:s1.length≤30) (E:Ma.length≤1) (H:Mb.length≤1) (la:wa.length≤40) (lb:wb.length≤40) (v:ta<800000) (z:tb<800000) :
  RoundG ⟨a,ta,false,wa,[],ea⟩ ⟨b,tb,false,wb,[],eb⟩ ⟨a2,ta+1,false,s1++Mb,[],ea1⟩ ⟨b2,tb+1,false,Ma,[],f⟩ :=
 ⟨⟨a1,false,ea1,s0,b1,false,f,s1,a2,Ma,b2,Mb,i,m,I,J,C,l1,E,H,rfl,rfl⟩,rfl,rfl,la,lb,v,z⟩
theorem PayOk.ea(k:PayOk q){c:CountsV}{x y:Int}{L:List Live}{sh:List KeptV}{nw la:List MsgV}(m:0≤c.signed∧c.signed≤65535)(i:nw.length≤10)(f:L.length≤10):EndB ⟨q.s,c,x,y,L,sh,nw,la⟩:=qy6 k.D.s1 k.D.chb m i f
theorem PayOk.eb(k:PayOk q){c:CountsV}{x y:Int}{L:List Live}{sh:List KeptV}{nw la:List MsgV}(m:0≤c.signed∧c.signed≤65535)(i:nw.length≤10)(f:L.length≤10):EndB ⟨q.t,c,x,y,L,sh,nw,la⟩:=qy6 k.D.s2 k.D.symm.chb m i f
theorem PayOk.wa(k:PayOk q){c:CountsV}{x y:Int}{L:List Live}{sh:List KeptV}{nw la:List MsgV}(h:c.awaits=true∨qa9 1 L=false)(i:nw.length≤1000)(f:L.length≤16):SignC ⟨q.s,c,x,y,L,sh,nw,la⟩ ⟨q.s,c,x,y,L,sh,nw,la⟩ []:=zaj k.D rfl h i f
theorem PayOk.wb(k:PayOk q){c:CountsV}{x y:Int}{L:List Live}{sh:List KeptV}{nw la:List MsgV}(h:c.awaits=true∨qa9 1 L=false)(i:nw.length≤1000)(f:L.length≤16):SignC ⟨q.t,c,x,y,L,sh,nw,la⟩ ⟨q.t,c,x,y,L,sh,nw,la⟩ []:=zaj k.D.symm rfl h i f
end
section
variable (q:Pay)(pd:Bool)(F:MsgV)(ea eb:List EvV)
noncomputable def Pay.A1(i:Nat):En:=⟨if i≤2 then q.a0 else if i≤4 then q.a1 else if i≤6 then q.a2 else q.a3,i,false,if i=4 then [q.r1] else if i=6 then [q.s2] else [],[],ea⟩
noncomputable def Pay.B1(i:Nat):En:=⟨if i=0 then q.b0 else if i≤3 then q.b1 else if i≤5 then q.b2 else if i=6 then q.b3 else q.b4,i,false,if i=0 then [q.add] else if i=3 then [q.s1] else [],[],if i≤6 then eb else eb++[evC (q.I false 4 false)]⟩
noncomputable def Pay.A2(f:List EvV)(i:Nat):En:=⟨if i=0 then q.a3 else if i=1 then q.a5 pd else if i≤3 then q.a6 pd else if i≤5 then q.a7 pd else q.a8 pd,200+i,false,if i=0 then [F] else if i=1 then [q.s3 pd] else if i=5 then [q.r4] else [],[],if i=0 then ea else if i≤5 then f else f++(if pd=true then [] else [evF (q.I true 8 pd)])⟩
noncomputable def Pay.B2(i:Nat):En:=⟨if i=0 then q.b5 pd F else if i=1 then q.b6 pd F else if i≤4 then q.b7 pd F else q.b8 pd F,200+i,false,if i=4 then [q.s4 pd] else [],[],eb⟩
end
section
variable {q:Pay}{pd:Bool}{F:MsgV}{p:List Int}{r:Int}{ea ea1 eb:List EvV}
theorem q3e:eb++qdk q.r2 false q.b3.xs q.b4.xs=eb++[evC (q.I false 4 false)]:=by
 unfold qdk;rw[if_neg (by show (7:Int)≠4;decide),if_neg (by show (7:Int)≠9;decide)];show eb++(qfg [q.I false 3 false] [q.I false 4 false]++qg0 [q.I false 3 false] [q.I false 4 false])=_;rw[q0b,qwq];rfl
theorem qvt:ea1++qdk q.r4 false (q.a7 pd).xs (q.a8 pd).xs=ea1++(if pd=true then [] else [evF (q.I true 8 pd)]):=by
 unfold qdk;rw[if_neg (by show (7:Int)≠4;decide),if_neg (by show (7:Int)≠9;decide)];show ea1++(qfg [q.I true 8 pd] []++qg0 [q.I true 8 pd] [])=_;rw[qws];rfl
theorem Pay.round1(k:PayOk q)(E:ea.length≤5000)(C:eb.length≤5000)(i:Nat)(H:i<200):RoundG (q.A1 ea i) (q.B1 eb i) (q.A1 ea (i+1)) (q.B1 eb (i+1)):=by
 have s1:=k.sa;have s2:=k.sb;rcases (by omega:i=0∨i=1∨i=2∨i=3∨i=4∨i=5∨i=6∨7≤i) with rfl | rfl | rfl | rfl | rfl | rfl | rfl | v
 ·show RoundG ⟨q.a0,0,false,[],[],ea⟩ ⟨q.b0,0,false,[q.add],[],eb⟩ ⟨q.a0,0+1,false,[],[],ea⟩ ⟨q.b1,0+1,false,[],[],eb⟩;exact rg (a1:=q.a0) (b1:=q.b1) (s0:=[]) (s1:=[]) (Ma:=[]) (Mb:=[]) (.nil _ _ _) (qed (Pay.h0 k) (by omega) (qdh (by show (3:Int)≠4;decide) (by show (3:Int)≠9;decide) (qwi (.inr (by decide))) rfl)) (qc2 (k.ea ⟨by show 0≤q.sa;omega,by show q.sa≤_;omega⟩ (by show (1:Nat)≤_;decide) (by show (1:Nat)≤_;decide)) (by decide)) (qc2 (k.eb ⟨by show 0≤q.sb;omega,by show q.sb≤_;omega⟩ (by show (0:Nat)≤_;decide) (by show (1:Nat)≤_;decide)) (by decide)) (by decide) (by decide) (by decide) (by decide) (by decide) (by show (1:Nat)≤_;decide) (by decide) (by decide)
 ·show RoundG ⟨q.a0,1,false,[],[],ea⟩ ⟨q.b1,1,false,[],[],eb⟩ ⟨q.a0,1+1,false,[],[],ea⟩ ⟨q.b1,1+1,false,[],[],eb⟩;exact rg (a1:=q.a0) (b1:=q.b1) (s0:=[]) (s1:=[]) (Ma:=[]) (Mb:=[]) (.nil _ _ _) (.nil _ _ _) (qc2 (k.ea ⟨by show 0≤q.sa;omega,by show q.sa≤_;omega⟩ (by show (1:Nat)≤_;decide) (by show (1:Nat)≤_;decide)) (by decide)) (qc2 (k.eb ⟨by show 0≤q.sb;omega,by show q.sb≤_;omega⟩ (by show (0:Nat)≤_;decide) (by show (1:Nat)≤_;decide)) (by decide)) (by decide) (by decide) (by decide) (by decide) (by decide) (by decide) (by decide) (by decide)
 ·show RoundG ⟨q.a0,2,false,[],[],ea⟩ ⟨q.b1,2,false,[],[],eb⟩ ⟨q.a1,2+1,false,[],[],ea⟩ ⟨q.b1,2+1,false,[q.s1],[],eb⟩;exact rg (a1:=q.a0) (b1:=q.b1) (s0:=[]) (s1:=[]) (Ma:=[q.s1]) (Mb:=[]) (.nil _ _ _) (.nil _ _ _) (qe6 (k.ea ⟨by show 0≤q.sa;omega,by show q.sa≤_;omega⟩ (by show (1:Nat)≤_;decide) (by show (1:Nat)≤_;decide)) (by decide) (Pay.g1 k)) (qe6 (k.eb ⟨by show 0≤q.sb;omega,by show q.sb≤_;omega⟩ (by show (0:Nat)≤_;decide) (by show (1:Nat)≤_;decide)) (by decide) (k.wb (.inr rfl) (by show (0:Nat)≤_;decide) (by show (1:Nat)≤_;decide))) (by decide) (by decide) (by show (1:Nat)≤_;decide) (by decide) (by decide) (by decide) (by decide) (by decide)
 ·show RoundG ⟨q.a1,3,false,[],[],ea⟩ ⟨q.b1,3,false,[q.s1],[],eb⟩ ⟨q.a1,3+1,false,[q.r1],[],ea⟩ ⟨q.b2,3+1,false,[],[],eb⟩;exact rg (a1:=q.a1) (b1:=q.b2) (s0:=[]) (s1:=[q.r1]) (Ma:=[]) (Mb:=[]) (.nil _ _ _) (qed (Pay.h1 k) (by omega) (qdh (by show (6:Int)≠4;decide) (by show (6:Int)≠9;decide) (qwi (.inr (by decide))) qwq)) (qc2 (k.ea ⟨by show 0≤q.sa+1;omega,by show q.sa+1≤_;omega⟩ (by show (0:Nat)≤_;decide) (by show (1:Nat)≤_;decide)) (by decide)) (qc2 (k.eb ⟨by show 0≤q.sb;omega,by show q.sb≤_;omega⟩ (by show (0:Nat)≤_;decide) (by show (1:Nat)≤_;decide)) (by decide)) (by decide) (by show (1:Nat)≤_;decide) (by decide) (by decide) (by decide) (by show (1:Nat)≤_;decide) (by decide) (by decide)
 ·show RoundG ⟨q.a1,4,false,[q.r1],[],ea⟩ ⟨q.b2,4,false,[],[],eb⟩ ⟨q.a2,4+1,false,[],[],ea⟩ ⟨q.b2,4+1,false,[],[],eb⟩;exact rg (a1:=q.a2) (b1:=q.b2) (s0:=[]) (s1:=[]) (Ma:=[]) (Mb:=[]) (qed (Pay.h2 k) (by omega) (qdh (by show (7:Int)≠4;decide) (by show (7:Int)≠9;decide) (qwi (.inl rfl)) qwq)) (.nil _ _ _) (qc2 (k.ea ⟨by show 0≤q.sa+1;omega,by show q.sa+1≤_;omega⟩ (by show (0:Nat)≤_;decide) (by show (1:Nat)≤_;decide)) (by decide)) (qc2 (k.eb ⟨by show 0≤q.sb;omega,by show q.sb≤_;omega⟩ (by show (0:Nat)≤_;decide) (by show (1:Nat)≤_;decide)) (by decide)) (by decide) (by decide) (by decide) (by decide) (by show (1:Nat)≤_;decide) (by decide) (by decide) (by decide)
 ·show RoundG ⟨q.a2,5,false,[],[],ea⟩ ⟨q.b2,5,false,[],[],eb⟩ ⟨q.a2,5+1,false,[q.s2],[],ea⟩ ⟨q.b3,5+1,false,[],[],eb⟩;exact rg (a1:=q.a2) (b1:=q.b2) (s0:=[]) (s1:=[]) (Ma:=[]) (Mb:=[q.s2]) (.nil _ _ _) (.nil _ _ _) (qe6 (k.ea ⟨by show 0≤q.sa+1;omega,by show q.sa+1≤_;omega⟩ (by show (0:Nat)≤_;decide) (by show (1:Nat)≤_;decide)) (by decide) (k.wa (.inr rfl) (by show (0:Nat)≤_;decide) (by show (1:Nat)≤_;decide))) (qe6 (k.eb ⟨by show 0≤q.sb;omega,by show q.sb≤_;omega⟩ (by show (0:Nat)≤_;decide) (by show (1:Nat)≤_;decide)) (by decide) (Pay.g2 k)) (by decide) (by decide) (by decide) (by show (1:Nat)≤_;decide) (by decide) (by decide) (by decide) (by decide)
 ·show RoundG ⟨q.a2,6,false,[q.s2],[],ea⟩ ⟨q.b3,6,false,[],[],eb⟩ ⟨q.a3,6+1,false,[],[],ea⟩ ⟨q.b4,6+1,false,[],[],eb++[evC (q.I false 4 false)]⟩;exact rg (a1:=q.a3) (b1:=q.b4) (s0:=[q.r2]) (s1:=[]) (Ma:=[]) (Mb:=[]) (qed (Pay.h3 k) (by omega) (qdh (by show (6:Int)≠4;decide) (by show (6:Int)≠9;decide) (qwi (.inl rfl)) qwq)) (qed (Pay.h4 k) (by omega) q3e) (qc2 (k.ea ⟨by show 0≤q.sa+1;omega,by show q.sa+1≤_;omega⟩ (by show (0:Nat)≤_;decide) (by show (1:Nat)≤_;decide)) (by decide)) (qc2 (k.eb ⟨by show 0≤q.sb+1;omega,by show q.sb+1≤_;omega⟩ (by show (0:Nat)≤_;decide) (by show (1:Nat)≤_;decide)) (by decide)) (by show (1:Nat)≤_;decide) (by decide) (by decide) (by decide) (by show (1:Nat)≤_;decide) (by decide) (by decide) (by decide)
 ·have f:∀j,7≤j→q.A1 ea j=⟨q.a3,j,false,[],[],ea⟩:=fun j z=>by
   unfold Pay.A1;rw[if_neg (by omega),if_neg (by omega),if_neg (by omega),if_neg (by omega),if_neg (by omega)]
  have m:∀j,7≤j→q.B1 eb j=⟨q.b4,j,false,[],[],eb++[evC (q.I false 4 false)]⟩:=fun j z=>by
   unfold Pay.B1;rw[if_neg (by omega),if_neg (by omega),if_neg (by omega),if_neg (by omega),if_neg (by omega),if_neg (by omega),if_neg (by omega)]
  rw[f i v,f (i+1) (by omega),m i v,m (i+1) (by omega)];show RoundG ⟨q.a3,i,false,[],[],ea⟩ ⟨q.b4,i,false,[],[],eb++[evC (q.I false 4 false)]⟩ ⟨q.a3,i+1,false,[],[],ea⟩ ⟨q.b4,i+1,false,[],[],eb++[evC (q.I false 4 false)]⟩;exact rg (a1:=q.a3) (b1:=q.b4) (s0:=[]) (s1:=[]) (Ma:=[]) (Mb:=[]) (.nil _ _ _) (.nil _ _ _) (qln (k.ea ⟨by show 0≤q.sa+1;omega,by show q.sa+1≤_;omega⟩ (by show (0:Nat)≤_;decide) (by show (1:Nat)≤_;decide)) (k.wa (.inr rfl) (by show (0:Nat)≤_;decide) (by show (1:Nat)≤_;decide))) (qln (k.eb ⟨by show 0≤q.sb+1;omega,by show q.sb+1≤_;omega⟩ (by show (0:Nat)≤_;decide) (by show (1:Nat)≤_;decide)) (k.wb (.inr rfl) (by show (0:Nat)≤_;decide) (by show (1:Nat)≤_;decide))) (by decide) (by decide) (by decide) (by decide) (by decide) (by decide) (by omega) (by omega)
theorem Pay.round2(k:PayOk q)(H:ea1.length≤5000)(E:eb.length≤5000)(z:HearL q.a3 false ea [F] (q.a5 pd) false ea1 [])(i:Nat)(J:i<200):RoundG (q.A2 pd F ea ea1 i) (q.B2 pd F eb i) (q.A2 pd F ea ea1 (i+1)) (q.B2 pd F eb (i+1)):=by
 have s1:=k.sa;have s2:=k.sb;rcases (by omega:i=0∨i=1∨i=2∨i=3∨i=4∨i=5∨6≤i) with rfl | rfl | rfl | rfl | rfl | rfl | v
 ·show RoundG ⟨q.a3,200+0,false,[F],[],ea⟩ ⟨q.b5 pd F,200+0,false,[],[],eb⟩ ⟨q.a5 pd,200+0+1,false,[q.s3 pd],[],ea1⟩ ⟨q.b6 pd F,200+0+1,false,[],[],eb⟩;exact rg (a1:=q.a5 pd) (b1:=q.b5 pd F) (s0:=[]) (s1:=[]) (Ma:=[]) (Mb:=[q.s3 pd]) z (.nil _ _ _) (qe6 (k.ea ⟨by show 0≤q.sa+1;omega,by show q.sa+1≤_;omega⟩ (by show (0:Nat)≤_;decide) (by show (1:Nat)≤_;decide)) (by decide) (k.wa (.inr rfl) (by show (0:Nat)≤_;decide) (by show (1:Nat)≤_;decide))) (qe6 (k.eb ⟨by show 0≤q.sb+1;omega,by show q.sb+1≤_;omega⟩ (by show (1:Nat)≤_;decide) (by show (1:Nat)≤_;decide)) (by decide) (Pay.g3 k)) (by decide) (by decide) (by decide) (by show (1:Nat)≤_;decide) (by show (1:Nat)≤_;decide) (by decide) (by decide) (by decide)
 ·show RoundG ⟨q.a5 pd,200+1,false,[q.s3 pd],[],ea1⟩ ⟨q.b6 pd F,200+1,false,[],[],eb⟩ ⟨q.a6 pd,200+1+1,false,[],[],ea1⟩ ⟨q.b7 pd F,200+1+1,false,[],[],eb⟩;exact rg (a1:=q.a6 pd) (b1:=q.b7 pd F) (s0:=[q.r3]) (s1:=[]) (Ma:=[]) (Mb:=[]) (qed (Pay.h6 k) (by omega) (qdh (by show (6:Int)≠4;decide) (by show (6:Int)≠9;decide) (qwi (.inl rfl)) qwq)) (qed (Pay.h7 k) (by omega) (qdh (by show (7:Int)≠4;decide) (by show (7:Int)≠9;decide) (qwi (.inr (by decide))) qwq)) (qc2 (k.ea ⟨by show 0≤q.sa+1;omega,by show q.sa+1≤_;omega⟩ (by show (0:Nat)≤_;decide) (by show (1:Nat)≤_;decide)) (by decide)) (qc2 (k.eb ⟨by show 0≤q.sb+1+1;omega,by show q.sb+1+1≤_;omega⟩ (by show (0:Nat)≤_;decide) (by show (1:Nat)≤_;decide)) (by decide)) (by show (1:Nat)≤_;decide) (by decide) (by decide) (by decide) (by show (1:Nat)≤_;decide) (by decide) (by decide) (by decide)
 ·show RoundG ⟨q.a6 pd,200+2,false,[],[],ea1⟩ ⟨q.b7 pd F,200+2,false,[],[],eb⟩ ⟨q.a6 pd,200+2+1,false,[],[],ea1⟩ ⟨q.b7 pd F,200+2+1,false,[],[],eb⟩;exact rg (a1:=q.a6 pd) (b1:=q.b7 pd F) (s0:=[]) (s1:=[]) (Ma:=[]) (Mb:=[]) (.nil _ _ _) (.nil _ _ _) (qc2 (k.ea ⟨by show 0≤q.sa+1;omega,by show q.sa+1≤_;omega⟩ (by show (0:Nat)≤_;decide) (by show (1:Nat)≤_;decide)) (by decide)) (qc2 (k.eb ⟨by show 0≤q.sb+1+1;omega,by show q.sb+1+1≤_;omega⟩ (by show (0:Nat)≤_;decide) (by show (1:Nat)≤_;decide)) (by decide)) (by decide) (by decide) (by decide) (by decide) (by decide) (by decide) (by decide) (by decide)
 ·show RoundG ⟨q.a6 pd,200+3,false,[],[],ea1⟩ ⟨q.b7 pd F,200+3,false,[],[],eb⟩ ⟨q.a7 pd,200+3+1,false,[],[],ea1⟩ ⟨q.b7 pd F,200+3+1,false,[q.s4 pd],[],eb⟩;exact rg (a1:=q.a6 pd) (b1:=q.b7 pd F) (s0:=[]) (s1:=[]) (Ma:=[q.s4 pd]) (Mb:=[]) (.nil _ _ _) (.nil _ _ _) (qe6 (k.ea ⟨by show 0≤q.sa+1;omega,by show q.sa+1≤_;omega⟩ (by show (0:Nat)≤_;decide) (by show (1:Nat)≤_;decide)) (by decide) (Pay.g4 k)) (qe6 (k.eb ⟨by show 0≤q.sb+1+1;omega,by show q.sb+1+1≤_;omega⟩ (by show (0:Nat)≤_;decide) (by show (1:Nat)≤_;decide)) (by decide) (k.wb (.inr rfl) (by show (0:Nat)≤_;decide) (by show (1:Nat)≤_;decide))) (by decide) (by decide) (by show (1:Nat)≤_;decide) (by decide) (by decide) (by decide) (by decide) (by decide)
 ·show RoundG ⟨q.a7 pd,200+4,false,[],[],ea1⟩ ⟨q.b7 pd F,200+4,false,[q.s4 pd],[],eb⟩ ⟨q.a7 pd,200+4+1,false,[q.r4],[],ea1⟩ ⟨q.b8 pd F,200+4+1,false,[],[],eb⟩;exact rg (a1:=q.a7 pd) (b1:=q.b8 pd F) (s0:=[]) (s1:=[q.r4]) (Ma:=[]) (Mb:=[]) (.nil _ _ _) (qed (Pay.h8 k) (by omega) (qdh (by show (6:Int)≠4;decide) (by show (6:Int)≠9;decide) zdo rfl)) (qc2 (k.ea ⟨by show 0≤q.sa+1+1;omega,by show q.sa+1+1≤_;omega⟩ (by show (0:Nat)≤_;decide) (by show (1:Nat)≤_;decide)) (by decide)) (qc2 (k.eb ⟨by show 0≤q.sb+1+1;omega,by show q.sb+1+1≤_;omega⟩ (by show (0:Nat)≤_;decide) (by show (0:Nat)≤_;decide)) (by decide)) (by decide) (by show (1:Nat)≤_;decide) (by decide) (by decide) (by decide) (by show (1:Nat)≤_;decide) (by decide) (by decide)
 ·show RoundG ⟨q.a7 pd,200+5,false,[q.r4],[],ea1⟩ ⟨q.b8 pd F,200+5,false,[],[],eb⟩ ⟨q.a8 pd,200+5+1,false,[],[],ea1++(if pd=true then [] else [evF (q.I true 8 pd)])⟩ ⟨q.b8 pd F,200+5+1,false,[],[],eb⟩;exact rg (a1:=q.a8 pd) (b1:=q.b8 pd F) (s0:=[]) (s1:=[]) (Ma:=[]) (Mb:=[]) (qed (Pay.h9 k) (by omega) qvt) (.nil _ _ _) (qc2 (k.ea ⟨by show 0≤q.sa+1+1;omega,by show q.sa+1+1≤_;omega⟩ (by show (0:Nat)≤_;decide) (by show (0:Nat)≤_;decide)) (by decide)) (qc2 (k.eb ⟨by show 0≤q.sb+1+1;omega,by show q.sb+1+1≤_;omega⟩ (by show (0:Nat)≤_;decide) (by show (0:Nat)≤_;decide)) (by decide)) (by decide) (by decide) (by decide) (by decide) (by show (1:Nat)≤_;decide) (by decide) (by decide) (by decide)
 ·have f:∀j,6≤j→q.A2 pd F ea ea1 j=⟨q.a8 pd,200+j,false,[],[],ea1++(if pd=true then [] else [evF (q.I true 8 pd)])⟩:=fun j C=>by
   unfold Pay.A2;rw[if_neg (by omega),if_neg (by omega),if_neg (by omega),if_neg (by omega),if_neg (by omega),if_neg (by omega),if_neg (by omega),if_neg (by omega),if_neg (by omega)]
  have m:∀j,6≤j→q.B2 pd F eb j=⟨q.b8 pd F,200+j,false,[],[],eb⟩:=fun j C=>by
   unfold Pay.B2;rw[if_neg (by omega),if_neg (by omega),if_neg (by omega),if_neg (by omega)]
  rw[f i v,f (i+1) (by omega),m i v,m (i+1) (by omega)];show RoundG ⟨q.a8 pd,200+i,false,[],[],ea1++(if pd=true then [] else [evF (q.I true 8 pd)])⟩ ⟨q.b8 pd F,200+i,false,[],[],eb⟩ ⟨q.a8 pd,200+i+1,false,[],[],ea1++(if pd=true then [] else [evF (q.I true 8 pd)])⟩ ⟨q.b8 pd F,200+i+1,false,[],[],eb⟩;exact rg (a1:=q.a8 pd) (b1:=q.b8 pd F) (s0:=[]) (s1:=[]) (Ma:=[]) (Mb:=[]) (.nil _ _ _) (.nil _ _ _) (qln (k.ea ⟨by show 0≤q.sa+1+1;omega,by show q.sa+1+1≤_;omega⟩ (by show (0:Nat)≤_;decide) (by show (0:Nat)≤_;decide)) (k.wa (.inr rfl) (by show (0:Nat)≤_;decide) (by show (0:Nat)≤_;decide))) (qln (k.eb ⟨by show 0≤q.sb+1+1;omega,by show q.sb+1+1≤_;omega⟩ (by show (0:Nat)≤_;decide) (by show (0:Nat)≤_;decide)) (k.wb (.inr rfl) (by show (0:Nat)≤_;decide) (by show (0:Nat)≤_;decide))) (by decide) (by decide) (by decide) (by decide) (by decide) (by decide) (by omega) (by omega)
end
end Go.Proofs.YtfmkdoachjgjbaaGreatDoor
