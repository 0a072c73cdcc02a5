/-
  One payment between two links: rests, round by round (it comes; it is settled).
-/
import Derived.Test.YtfmkdoachjgjbaaGreatDoorMdc
set_option linter.unusedVariables false
set_option linter.unusedSimpArgs false
namespace Go.Proofs.YtfmkdoachjgjbaaGreatDoor
open Go.RowKit
section
variable {q:Pay}{pd:Bool}{F:MsgV}{p:List Int}{r:Int}{es:List EvV}
theorem q4p{bs:List Live}{f:Bool}{st:Int}(h:f=true∨st≠4):qfb bs [q.I f st pd]=[]:=by
 unfold qfb;have e:qgh bs (q.I f st pd)=false:=by
  unfold qgh;rcases h with rfl | h
  ·rfl
  ·have i:((q.I f st pd).state==4)=false:=by
    show (st==4)=false;simpa using h
   rw[i];simp
 simp[e]
theorem q9h{m f:Bool}{st i:Int} : qiu [q.I m st pd] [q.I m i f]=[]:=by
 unfold qiu;have e:qiv [q.I m i f] (q.I m st pd)=false:=by
  unfold qiv;cases m
  ·rfl
  ·have:([q.I true i f]:List Live).findIdx? (qcz true (q.I true st pd).h.id)=some 0:=by
    have:qcz true (q.I true st pd).h.id (q.I true i f)=true:=by simp[qcz,Pay.I,qlo]
    simp[List.findIdx?_cons,this]
   rw[this];simp
 simp[e]
theorem qgo{m:MsgV}{wt:Bool}{f i:List Live}(v:m.kind≠4)(z:m.kind≠9)(C:qfb f i=[])(E:qiu f i=[]):es++qdg m wt f i=es:=by
 unfold qdg;rw[if_neg v,if_neg z,C,E];simp
theorem q0a:qfb [q.I false 3 false] [q.I false 4 false]=[evC (q.I false 4 false)]:=by
 unfold qfb;have e:qgh [q.I false 3 false] (q.I false 4 false)=true:=by
  unfold qgh;have:([q.I false 3 false]:List Live).findIdx? (qcz false (q.I false 4 false).h.id)=some 0:=by
   have:qcz false (q.I false 4 false).h.id (q.I false 3 false)=true:=by simp[qcz,Pay.I,qlo]
   simp[List.findIdx?_cons,this]
  rw[this];rfl
 simp[e]
theorem qkw{c c':Ch}{m:MsgV}{f:List MsgV}{es':List EvV}(h:HearC c m c' f)(i:es.length≤10000)(v:es++qdg m false c.xs c'.xs=es'):HearL c false es [m] c' false es' f:=by
 have:=HearL.one (wt:=false) (es:=es) h i;rw[v] at this;have e:qre m false=false:=by unfold qre;split<;>rfl
 rwa [e] at this
theorem qy3{s:SetupV}{k:CountsV}{x y:Int}{L:List Live}{sh:List KeptV}{nw la:List MsgV}(v:s.key.size≤1000)(f:0≤s.ch∧s.ch<4294967296)(i:0≤k.signed∧k.signed≤65535)(z:nw.length≤10)(m:L.length≤10):EndB ⟨s,k,x,y,L,sh,nw,la⟩ :=
 ⟨by show s.key.size≤_;omega,f,i,by show nw.length<_;omega,by show L.length≤_;omega⟩
theorem qev{t:Nat}{c:Ch}(h:EndB c)(f:(t+1)%3≠0):qgv t false c c []:=⟨h,by rw[if_pos (.inr f)];exact⟨rfl,rfl⟩⟩
theorem qjt{t:Nat}{c c':Ch}{M:List MsgV}(h:EndB c)(i:(t+1)%3=0)(f:SignC c c' M):qgv t false c c' M:=⟨h,by rw[if_neg (by simp[i])];exact f⟩
theorem qvt{t:Nat}{c:Ch}(h:EndB c)(i:SignC c c []):qgv t false c c []:=by
 by_cases f:(t+1)%3=0
 ·exact qjt h f i
 ·exact qev h f
theorem rg{a a1 a2 b b1 b2:Ch}{ta tb:Nat}{wa wb s0 s1 Ma Mb:List MsgV}{ea ea1 eb f:List EvV}(i:HearL a false ea wa a1 false ea1 s0)(m:HearL b false eb (wb++s0) b1 false f s1)(I:qgv ta false a1 a2 Ma)(J:qgv tb false b1 b2 Mb)
  (C:s0.length≤30) (l1:s1.length≤30) (E:Ma.length≤1) (H:Mb.length≤1) (la:wa.length≤40) (lb:wb.length≤40) (v:ta<800000) (z:tb<800000) :
  RoundG ⟨a,ta,false,wa,[],ea⟩ ⟨b,tb,false,wb,[],eb⟩ ⟨a2,ta+1,false,s1++Mb,[],ea1⟩ ⟨b2,tb+1,false,Ma,[],f⟩ :=
 ⟨⟨a1,false,ea1,s0,b1,false,f,s1,a2,Ma,b2,Mb,i,m,I,J,C,l1,E,H,rfl,rfl⟩,rfl,rfl,la,lb,v,z⟩
theorem PayOk.ea(k:PayOk q){c:CountsV}{x y:Int}{L:List Live}{sh:List KeptV}{nw la:List MsgV}(m:0≤c.signed∧c.signed≤65535)(i:nw.length≤10)(f:L.length≤10):EndB ⟨q.s,c,x,y,L,sh,nw,la⟩:=qy3 k.D.s1 k.D.chb m i f
theorem PayOk.eb(k:PayOk q){c:CountsV}{x y:Int}{L:List Live}{sh:List KeptV}{nw la:List MsgV}(m:0≤c.signed∧c.signed≤65535)(i:nw.length≤10)(f:L.length≤10):EndB ⟨q.t,c,x,y,L,sh,nw,la⟩:=qy3 k.D.s2 k.D.symm.chb m i f
theorem PayOk.wa(k:PayOk q){c:CountsV}{x y:Int}{L:List Live}{sh:List KeptV}{nw la:List MsgV}(h:c.awaits=true∨qa8 1 L=false)(i:nw.length≤1000)(f:L.length≤16):SignC ⟨q.s,c,x,y,L,sh,nw,la⟩ ⟨q.s,c,x,y,L,sh,nw,la⟩ []:=za1 k.D rfl h i f
theorem PayOk.wb(k:PayOk q){c:CountsV}{x y:Int}{L:List Live}{sh:List KeptV}{nw la:List MsgV}(h:c.awaits=true∨qa8 1 L=false)(i:nw.length≤1000)(f:L.length≤16):SignC ⟨q.t,c,x,y,L,sh,nw,la⟩ ⟨q.t,c,x,y,L,sh,nw,la⟩ []:=za1 k.D.symm rfl h i f
end
section
variable (q:Pay)(pd:Bool)(F:MsgV)(ea eb:List EvV)
noncomputable def Pay.A1(i:Nat):En:=⟨if i≤2 then q.a0 else if i≤4 then q.a1 else if i≤6 then q.a2 else q.a3,i,false,if i=4 then [q.r1] else if i=6 then [q.s2] else [],[],ea⟩
noncomputable def Pay.B1(i:Nat):En:=⟨if i=0 then q.b0 else if i≤3 then q.b1 else if i≤5 then q.b2 else if i=6 then q.b3 else q.b4,i,false,if i=0 then [q.add] else if i=3 then [q.s1] else [],[],if i≤6 then eb else eb++[evC (q.I false 4 false)]⟩
end
section
variable {q:Pay}{pd:Bool}{F:MsgV}{p:List Int}{r:Int}{ea ea1 eb:List EvV}
theorem q3k:eb++qdg q.r2 false q.b3.xs q.b4.xs=eb++[evC (q.I false 4 false)]:=by
 unfold qdg;rw[if_neg (by show (7:Int)≠4;decide),if_neg (by show (7:Int)≠9;decide)];show eb++(qfb [q.I false 3 false] [q.I false 4 false]++qiu [q.I false 3 false] [q.I false 4 false])=_;rw[q0a,q9h];rfl
theorem Pay.round1(k:PayOk q)(E:ea.length≤5000)(C:eb.length≤5000)(i:Nat)(H:i<200):RoundG (q.A1 ea i) (q.B1 eb i) (q.A1 ea (i+1)) (q.B1 eb (i+1)):=by
 have s1:=k.sa;have s2:=k.sb;rcases (by omega:i=0∨i=1∨i=2∨i=3∨i=4∨i=5∨i=6∨7≤i) with rfl | rfl | rfl | rfl | rfl | rfl | rfl | v
 ·show RoundG ⟨q.a0,0,false,[],[],ea⟩ ⟨q.b0,0,false,[q.add],[],eb⟩ ⟨q.a0,0+1,false,[],[],ea⟩ ⟨q.b1,0+1,false,[],[],eb⟩;exact rg (a1:=q.a0) (b1:=q.b1) (s0:=[]) (s1:=[]) (Ma:=[]) (Mb:=[]) (.nil _ _ _) (qkw (Pay.h0 k) (by omega) (qgo (by show (3:Int)≠4;decide) (by show (3:Int)≠9;decide) (q4p (.inr (by decide))) rfl)) (qev (k.ea ⟨by show 0≤q.sa;omega,by show q.sa≤_;omega⟩ (by show (1:Nat)≤_;decide) (by show (1:Nat)≤_;decide)) (by decide)) (qev (k.eb ⟨by show 0≤q.sb;omega,by show q.sb≤_;omega⟩ (by show (0:Nat)≤_;decide) (by show (1:Nat)≤_;decide)) (by decide)) (by decide) (by decide) (by decide) (by decide) (by decide) (by show (1:Nat)≤_;decide) (by decide) (by decide)
 ·show RoundG ⟨q.a0,1,false,[],[],ea⟩ ⟨q.b1,1,false,[],[],eb⟩ ⟨q.a0,1+1,false,[],[],ea⟩ ⟨q.b1,1+1,false,[],[],eb⟩;exact rg (a1:=q.a0) (b1:=q.b1) (s0:=[]) (s1:=[]) (Ma:=[]) (Mb:=[]) (.nil _ _ _) (.nil _ _ _) (qev (k.ea ⟨by show 0≤q.sa;omega,by show q.sa≤_;omega⟩ (by show (1:Nat)≤_;decide) (by show (1:Nat)≤_;decide)) (by decide)) (qev (k.eb ⟨by show 0≤q.sb;omega,by show q.sb≤_;omega⟩ (by show (0:Nat)≤_;decide) (by show (1:Nat)≤_;decide)) (by decide)) (by decide) (by decide) (by decide) (by decide) (by decide) (by decide) (by decide) (by decide)
 ·show RoundG ⟨q.a0,2,false,[],[],ea⟩ ⟨q.b1,2,false,[],[],eb⟩ ⟨q.a1,2+1,false,[],[],ea⟩ ⟨q.b1,2+1,false,[q.s1],[],eb⟩;exact rg (a1:=q.a0) (b1:=q.b1) (s0:=[]) (s1:=[]) (Ma:=[q.s1]) (Mb:=[]) (.nil _ _ _) (.nil _ _ _) (qjt (k.ea ⟨by show 0≤q.sa;omega,by show q.sa≤_;omega⟩ (by show (1:Nat)≤_;decide) (by show (1:Nat)≤_;decide)) (by decide) (Pay.g1 k)) (qjt (k.eb ⟨by show 0≤q.sb;omega,by show q.sb≤_;omega⟩ (by show (0:Nat)≤_;decide) (by show (1:Nat)≤_;decide)) (by decide) (k.wb (.inr rfl) (by show (0:Nat)≤_;decide) (by show (1:Nat)≤_;decide))) (by decide) (by decide) (by show (1:Nat)≤_;decide) (by decide) (by decide) (by decide) (by decide) (by decide)
 ·show RoundG ⟨q.a1,3,false,[],[],ea⟩ ⟨q.b1,3,false,[q.s1],[],eb⟩ ⟨q.a1,3+1,false,[q.r1],[],ea⟩ ⟨q.b2,3+1,false,[],[],eb⟩;exact rg (a1:=q.a1) (b1:=q.b2) (s0:=[]) (s1:=[q.r1]) (Ma:=[]) (Mb:=[]) (.nil _ _ _) (qkw (Pay.h1 k) (by omega) (qgo (by show (6:Int)≠4;decide) (by show (6:Int)≠9;decide) (q4p (.inr (by decide))) q9h)) (qev (k.ea ⟨by show 0≤q.sa+1;omega,by show q.sa+1≤_;omega⟩ (by show (0:Nat)≤_;decide) (by show (1:Nat)≤_;decide)) (by decide)) (qev (k.eb ⟨by show 0≤q.sb;omega,by show q.sb≤_;omega⟩ (by show (0:Nat)≤_;decide) (by show (1:Nat)≤_;decide)) (by decide)) (by decide) (by show (1:Nat)≤_;decide) (by decide) (by decide) (by decide) (by show (1:Nat)≤_;decide) (by decide) (by decide)
 ·show RoundG ⟨q.a1,4,false,[q.r1],[],ea⟩ ⟨q.b2,4,false,[],[],eb⟩ ⟨q.a2,4+1,false,[],[],ea⟩ ⟨q.b2,4+1,false,[],[],eb⟩;exact rg (a1:=q.a2) (b1:=q.b2) (s0:=[]) (s1:=[]) (Ma:=[]) (Mb:=[]) (qkw (Pay.h2 k) (by omega) (qgo (by show (7:Int)≠4;decide) (by show (7:Int)≠9;decide) (q4p (.inl rfl)) q9h)) (.nil _ _ _) (qev (k.ea ⟨by show 0≤q.sa+1;omega,by show q.sa+1≤_;omega⟩ (by show (0:Nat)≤_;decide) (by show (1:Nat)≤_;decide)) (by decide)) (qev (k.eb ⟨by show 0≤q.sb;omega,by show q.sb≤_;omega⟩ (by show (0:Nat)≤_;decide) (by show (1:Nat)≤_;decide)) (by decide)) (by decide) (by decide) (by decide) (by decide) (by show (1:Nat)≤_;decide) (by decide) (by decide) (by decide)
 ·show RoundG ⟨q.a2,5,false,[],[],ea⟩ ⟨q.b2,5,false,[],[],eb⟩ ⟨q.a2,5+1,false,[q.s2],[],ea⟩ ⟨q.b3,5+1,false,[],[],eb⟩;exact rg (a1:=q.a2) (b1:=q.b2) (s0:=[]) (s1:=[]) (Ma:=[]) (Mb:=[q.s2]) (.nil _ _ _) (.nil _ _ _) (qjt (k.ea ⟨by show 0≤q.sa+1;omega,by show q.sa+1≤_;omega⟩ (by show (0:Nat)≤_;decide) (by show (1:Nat)≤_;decide)) (by decide) (k.wa (.inr rfl) (by show (0:Nat)≤_;decide) (by show (1:Nat)≤_;decide))) (qjt (k.eb ⟨by show 0≤q.sb;omega,by show q.sb≤_;omega⟩ (by show (0:Nat)≤_;decide) (by show (1:Nat)≤_;decide)) (by decide) (Pay.g2 k)) (by decide) (by decide) (by decide) (by show (1:Nat)≤_;decide) (by decide) (by decide) (by decide) (by decide)
 ·show RoundG ⟨q.a2,6,false,[q.s2],[],ea⟩ ⟨q.b3,6,false,[],[],eb⟩ ⟨q.a3,6+1,false,[],[],ea⟩ ⟨q.b4,6+1,false,[],[],eb++[evC (q.I false 4 false)]⟩;exact rg (a1:=q.a3) (b1:=q.b4) (s0:=[q.r2]) (s1:=[]) (Ma:=[]) (Mb:=[]) (qkw (Pay.h3 k) (by omega) (qgo (by show (6:Int)≠4;decide) (by show (6:Int)≠9;decide) (q4p (.inl rfl)) q9h)) (qkw (Pay.h4 k) (by omega) q3k) (qev (k.ea ⟨by show 0≤q.sa+1;omega,by show q.sa+1≤_;omega⟩ (by show (0:Nat)≤_;decide) (by show (1:Nat)≤_;decide)) (by decide)) (qev (k.eb ⟨by show 0≤q.sb+1;omega,by show q.sb+1≤_;omega⟩ (by show (0:Nat)≤_;decide) (by show (1:Nat)≤_;decide)) (by decide)) (by show (1:Nat)≤_;decide) (by decide) (by decide) (by decide) (by show (1:Nat)≤_;decide) (by decide) (by decide) (by decide)
 ·have f:∀j,7≤j→q.A1 ea j=⟨q.a3,j,false,[],[],ea⟩:=fun j z=>by
   unfold Pay.A1;rw[if_neg (by omega),if_neg (by omega),if_neg (by omega),if_neg (by omega),if_neg (by omega)]
  have m:∀j,7≤j→q.B1 eb j=⟨q.b4,j,false,[],[],eb++[evC (q.I false 4 false)]⟩:=fun j z=>by
   unfold Pay.B1;rw[if_neg (by omega),if_neg (by omega),if_neg (by omega),if_neg (by omega),if_neg (by omega),if_neg (by omega),if_neg (by omega)]
  rw[f i v,f (i+1) (by omega),m i v,m (i+1) (by omega)];show RoundG ⟨q.a3,i,false,[],[],ea⟩ ⟨q.b4,i,false,[],[],eb++[evC (q.I false 4 false)]⟩ ⟨q.a3,i+1,false,[],[],ea⟩ ⟨q.b4,i+1,false,[],[],eb++[evC (q.I false 4 false)]⟩;exact rg (a1:=q.a3) (b1:=q.b4) (s0:=[]) (s1:=[]) (Ma:=[]) (Mb:=[]) (.nil _ _ _) (.nil _ _ _) (qvt (k.ea ⟨by show 0≤q.sa+1;omega,by show q.sa+1≤_;omega⟩ (by show (0:Nat)≤_;decide) (by show (1:Nat)≤_;decide)) (k.wa (.inr rfl) (by show (0:Nat)≤_;decide) (by show (1:Nat)≤_;decide))) (qvt (k.eb ⟨by show 0≤q.sb+1;omega,by show q.sb+1≤_;omega⟩ (by show (0:Nat)≤_;decide) (by show (1:Nat)≤_;decide)) (k.wb (.inr rfl) (by show (0:Nat)≤_;decide) (by show (1:Nat)≤_;decide))) (by decide) (by decide) (by decide) (by decide) (by decide) (by decide) (by omega) (by omega)
end
end Go.Proofs.YtfmkdoachjgjbaaGreatDoor
