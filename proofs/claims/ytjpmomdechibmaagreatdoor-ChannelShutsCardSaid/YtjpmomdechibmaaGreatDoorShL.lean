/-
  The law ChannelShuts, walked.
-/
import Derived.Test.YtjpmomdechibmaaGreatDoorRsV
import Derived.Test.YtjpmomdechibmaaGreatDoorShQ
import Derived.Test.YtjpmomdechibmaaGreatDoorHeL
import Derived.Test.YtjpmomdechibmaaGreatDoorDoV
set_option linter.unusedVariables false
set_option linter.unusedSimpArgs false
namespace Go.Proofs.YtjpmomdechibmaaGreatDoor
open Go.RowKit
section
variable {w0 w:World}{p:Nat}{g:Nat→Nat}{K:Kon}{n k:Nat}{P:Pr}{Ks Ls:List Kp}
def q6j(Ks:List Kp)(a:Option Addr)(xs:List Live):Prop:=∀w,(∀q∈Ks,qli w q)→qn1 w a xs
theorem zed(R:Tb w0)(H:PrK w0 w p g P [])(f:k<2):Calls Tryz.prog 17 #[.pointer (some ⟨g k,0,none⟩)] w fun e w'=>∃a c Ks,e = .returned (.slice a (P.en k).xs.length c)∧PrK w0 w' p g P Ks∧q6j Ks a (P.en k).xs:=by
 obtain⟨N,I,-⟩:=H.end R f
 refine(qno _ N _ w I).mono ?_
 rintro e w' ⟨u,rfl,n,h | ⟨b,cap,rfl,hb,J⟩⟩
 ·obtain⟨a,c,rfl,O⟩:=h
  rw[O]
  exact⟨a,c,[],rfl,H.new n,fun w _ i x v=>by cases v⟩
 ·have V:=J
  obtain⟨C,T,o,z,U⟩:=J
  refine⟨_,cap,[(b,C,T)],rfl,?_,fun m y i x v=>⟨b,rfl,?_⟩⟩
  ·obtain⟨S,E,F,L,M,hP,X,I,Y,Z⟩:=H.new n
   obtain⟨S,E,F,L,M,l,W,D,-⟩:=H
   refine⟨S,E,F,L,M,l.new n,W,fun k f=>⟨(D k f).1,Nat.lt_of_lt_of_le (D k f).2 n.size⟩,?_,List.pairwise_singleton ..⟩
   intro q y
   rw[List.mem_singleton.1 y]
   have:=l.two.n.size
   exact⟨fun z=>by have:=(D b z).2;omega,o,by show w0.heap.size≤b;omega⟩
  ·have f:qli m (b,C,T):=y _ (List.mem_singleton.2 rfl)
   have t:qfj m b 0 (P.en k).xs:=⟨C,T,f,z,U⟩
   have:=t.row v
   rwa [Nat.zero_add] at this
theorem PrK.bare(h:PrK w0 w p g P Ks):PrK w0 w p g P []:=by
 obtain⟨S,f,i,v,x,o,l,m,y,z⟩:=h
 exact⟨S,f,i,v,x,o,l,m,(fun q t=>by cases t),List.nodup_nil⟩
theorem PrK.liv{a:Option Addr}{xs:List Live}(h:PrK w0 w p g P Ks)(l:∀q∈Ls,q∈Ks)(f:q6j Ls a xs):qn1 w a xs:=f w fun q i=>h.kept (l q i)
def ShI(K:Kon)(w0:World)(p n k:Nat)(wr:World):Prop:=∃P g,PInv K (n+k) P∧(1≤k→P.a.k.shutSaid=true)∧(2≤k→P.b.k.shutSaid=true)∧PrK w0 wr p g P []
theorem q5x(c:Ch):c.shut.1.k.shutSaid=true:=by
 unfold Ch.shut
 split
 ·assumption
 ·rfl
theorem q05{c:Ch}(h:c.k.shutSaid=true)(N ex:Int)(f:Vector Int 32):c.offer N f ex=(c,MsgV.zero,135):=by
 have e:qbg c N ex=135:=by unfold qbg;rw[if_pos h]
 unfold Ch.offer
 rw[e,if_neg (by decide)]
theorem zev(P:Pr)(k:Nat):P.set k (P.en k)=P:=by
 unfold Pr.set Pr.en
 split<;>rfl
theorem zd0(f:k<2)(P:Pr)(r:Ch × MsgV × Int):(P.act k r).en k=r.1:=by
 rcases (by omega:k=0∨k=1) with rfl | rfl<;>rfl
abbrev zcp(p k gk b o:Nat)(id:Int)(w:World):Prop:=w.cell? ⟨p,k,none⟩=some (.pointer (some ⟨gk,0,none⟩))∧w.cell? ⟨b,o,none⟩=some (.int .u64 id)
theorem q70{b i:Nat}{xs:List Live}{x:Live}(l:k<2)(h:PrK w0 w p g P Ks)(o:∀q∈Ls,q∈Ks)(m:q6j Ls (some ⟨b,0,none⟩) xs)(f:xs[i]? = some x):zcp p k (g k) b (i*38) x.h.id w:=by
 obtain⟨_,e,-,c,-⟩:=(h.liv o m).row f
 cases e
 exact⟨h.cell l,c⟩
def FaI(K:Kon)(w0:World)(p n:Nat)(Ks:List Kp)(l:List Live)(i:Nat)(wr:World):Prop:=∃P g,PInv K (n+i) P∧Fails (qdp false (l.drop i)) (qdp true (l.drop i)) P∧PrK w0 wr p g P Ks
end
attribute [local go_sem ↓ high] qkm qaa qap qar qa1 qab qac qag qah
attribute [local go_sem] q0p qcx qdn qdt qfm zq qcy qc0 qc2 qbn
set_option maxRecDepth 100000 in
set_option maxHeartbeats 8000000 in
theorem q5y(o c:Int)(v:Value)(xs:List ActV)(w:World)(ho:0≤o∧o<18446744073709551616)(hc:0≤c∧c<18446744073709551616)(hv:qo1 w v xs)(hx:∀x∈xs,x.Ok)(hT:Tb w) :
  Calls Tryz.prog 10 #[.int .u64 o,.int .u64 c,v] w (qa7 (.bool true) w):=by
 obtain⟨va,vc,rfl⟩:=hv.slice
 have b8:=fun W (n:qy w W)=>qts W (hT.new n)
 have HV:=qb hv
 by_cases e6:80<xs.length
 ·have hb:(80:Int)<(xs.length:Int):=by omega
  clear hv
  go_enter Tryz.func10,Tryz.ntmps10
  go_wp2_with fail
  refine(b8 w (Upd.refl _ _)).mono ?_
  rintro e w1 ⟨rfl,n1⟩
  go_wp2_with fail
  go_ret
  exact⟨rfl,n1⟩
 ·have hb:¬(80:Int)<(xs.length:Int):=by omega
  clear hv
  go_enter Tryz.func10,Tryz.ntmps10
  go_wp2_with fail
  refine(b8 w (Upd.refl _ _)).mono ?_
  rintro e w1 ⟨rfl,n1⟩
  have z:=hT.new n1
  have e3:=qb ((qa HV).new n1)
  have a9:=qb n1
  clear b8 HV n1
  go_wp2_with fail
  refine(qsm o c ho hc w1).mono ?_
  rintro e w2 (⟨p,gA,gB,rfl,a7,hP⟩ | ⟨rfl,d6,n2⟩)
  case inr =>
   have hN:=qb ((qa a9).trans n2)
   have c9:=q80 d6 hc.1
   clear d6 n2 a9
   by_cases h0:c=0
   ·subst h0
    go_wp2_with fail
    go_ret
    exact⟨rfl,qa hN⟩
   ·by_cases h1:1125899906842624<c
    ·have d0:(c==0)=false:=beq_eq_false_iff_ne.2 h0
     have d1:decide (1125899906842624<c)=true:=decide_eq_true h1
     clear c9
     go_wp2_with fail
     go_ret
     exact⟨rfl,qa hN⟩
    ·have h2:c<o:=by omega
     have d0:(c==0)=false:=beq_eq_false_iff_ne.2 h0
     have d1:decide (1125899906842624<c)=false:=decide_eq_false h1
     have d2:decide (c<o)=true:=decide_eq_true h2
     clear c9
     go_wp2_with fail
     go_ret
     exact⟨rfl,qa hN⟩
  case inl =>
   obtain⟨g,hG⟩:=PrK.start hP
   have f:=q0o ho.1 a7
   have D:=fun i (h:i≤xs.length)=>qps f (q25 ho.1 a7) hx i h (by omega)
   have HI:=qb D
   have HG:Hid (∃g,PrK w1 w2 p g ((pr0 o c).acts (xs.take 0)) []):=qb ⟨g,hG⟩
   clear hP hG D
   go_wp2_with fail
   go_loopw [8] (fun iv wr=>∃i:Nat,iv = .int .i64 (i:Int)∧i≤xs.length∧Hid (∃g,PrK w1 wr p g ((pr0 o c).acts (xs.take i)) [])) (fun iv _=>xs.length-(intOf iv).toNat)
   case atStart=>exact⟨0,rfl,Nat.zero_le _,HG⟩
   case round =>
    obtain⟨i,rfl,hi,HH⟩:=hrel
    obtain⟨wq,rfl⟩:∃wq:World,wq=wr:=⟨_,rfl⟩
    obtain⟨g,hG⟩:=qa HH
    clear HH HG
    by_cases U:i<xs.length
    ·obtain⟨x,I⟩:∃x,xs[i]? = some x:=⟨_,List.getElem?_eq_getElem U⟩
     have e7:(i:Int)<(xs.length:Int):=by omega
     obtain⟨gv,off,rfl,d7⟩:=((qa e3).new hG.n).at I
     have hd:=qwt z f (by omega) hG (qa HI i hi) x (hx x (List.mem_of_getElem? I))
     rw[←qnf _ I] at hd
     generalize c8:(pr0 o c).acts (xs.take (i+1))=P' at *
     have e2:=qb c8
     clear hG I c8
     go_wp2_with (with_reducible first|(first|refine' zr (qg ?_) ?_|refine' zt (qg ?_) ?_);rotate_left|refine' zu (qg ?_)|rfl|apply tn|refine' zv ?_)
     refine hd.mono ?_
     rintro e w4 ⟨rfl,g',y⟩
     have y:=qb y
     clear hd d7
     go_wp2_with (with_reducible first|(first|refine' zr (qg ?_) ?_|refine' zt (qg ?_) ?_);rotate_left|refine' zu (qg ?_)|rfl|apply tn|refine' zv ?_)
     go_roundw
     case rel=>exact⟨i+1,by go_num,U,qb ⟨g',by rw[qa e2];exact qa y⟩⟩
     case measure=>simp[intOf];omega
    ·obtain rfl:i=xs.length:=by omega
     have hP:=qa HI _ (Nat.le_refl _)
     have HS:Hid (ShI (kon o c) w1 p xs.length 0 wq):=qb ⟨_,g,hP,(fun h=>by omega),(fun h=>by omega),hG⟩
     have e4:=qa a9
     clear hG hP HI
     go_wp2_with (with_reducible first|(first|refine' zr (qg ?_) ?_|refine' zt (qg ?_) ?_);rotate_left|refine' zu (qg ?_)|rfl|apply tn|refine' zv ?_)
     go_loopw [9] (fun kv wr=>∃k:Nat,kv = .int .i64 (k:Int)∧k≤2∧Hid (ShI (kon o c) w1 p xs.length k wr)) (fun kv _=>2-(intOf kv).toNat)
     case atStart=>exact⟨0,rfl,by decide,HS⟩
     case round =>
      obtain⟨k,rfl,e9,hS⟩:=hrel
      obtain⟨wv,rfl⟩:∃wv:World,wv=wr:=⟨_,rfl⟩
      clear HS
      by_cases J:k<2
      ·have e5:(k:Int)<2:=by omega
       obtain⟨P,g,D,sa,sb,H⟩:=qa hS
       have b7:=zdd z H J
       obtain⟨c6,E⟩:=D.shut f J
       have b5:=D.long
       have cp:=H.cell J
       have HT:=qb (show (P.set k (P.en k).shut.1).wa.length<1000000∧(P.set k (P.en k).shut.1).wb.length<1000000 by rw[(qci _ _ _).1,(qci _ _ _).2];omega)
       have a6:((P.act k (P.en k).shut).en k).k.shutSaid=true:=by rw[zd0 J];exact q5x _
       have d8:1≤k+1→(P.act k (P.en k).shut).a.k.shutSaid=true:=fun _=>by
        rcases (by omega:k=0∨k=1) with rfl | rfl
        ·exact a6
        ·exact sa (by decide)
       have d9:2≤k+1→(P.act k (P.en k).shut).b.k.shutSaid=true:=fun h=>by
        rcases (by omega:k=0∨k=1) with rfl | rfl
        ·omega
        ·exact a6
       have HA:=qb (And.intro d8 (And.intro d9 (And.intro a6 c6)))
       generalize (P.en k).shut=r at *
       obtain⟨c',m,e⟩:=r
       have C:=E.len
       have HM:=qb E
       simp only at b7 C
       clear hS D H E b5 sa sb d8 d9 a6 c6
       go_wp2_with (with_reducible first|(first|refine' zr (qg ?_) ?_|refine' zt (qg ?_) ?_);rotate_left|refine' zu (qg ?_)|rfl|apply tn|refine' zv ?_)
       refine b7.mono ?_
       rintro ee w5 ⟨rfl,N⟩
       obtain⟨X,hF,nF⟩:=qes w5 m C
       have O:=N.fresh m C
       have HF:=qb hF
       replace O:=qb O
       clear b7 N hF nF cp
       go_upto_region 14 with (with_reducible first|(first|refine' zr (qg ?_) ?_|refine' zt (qg ?_) ?_);rotate_left|refine' zu (qg ?_)|rfl|apply tn|refine' zv ?_)
       change Code.wp _ _ _ _ (qea w5 m)
       generalize qea w5 m=w6 at HF O ⊢
       generalize w5.heap.size=Km at HF O ⊢
       have V:=(qa HF).row
       have F:=qop (qa O) J m e (qa HM) (qa HT)
       clear X
       go_wp2_with (with_reducible first|(first|refine' zr (qg ?_) ?_|refine' zt (qg ?_) ?_);rotate_left|refine' zu (qg ?_)|rfl|apply tn|refine' zv ?_)
       refine F.mono ?_
       rintro ee w7 ⟨rfl,g',H7⟩
       replace H7:=H7.drop
       have cp:=H7.cell J
       obtain⟨b1,b2,b3,b4⟩:=qa HA
       have he:=b4.end f (by omega) J
       have b6:=qq7 z H7 J 1 qad 5 qo qde ⟨by decide,by decide⟩ ⟨by decide,by decide⟩ ⟨by have:=he.news;show ((P.act k (c',m,e)).en k).news.length<1000000;omega,by have:=he.xs;show ((P.act k (c',m,e)).en k).xs.length<1000000;omega⟩
       rw[show ((P.set k c').say k m e)=P.act k (c',m,e) from rfl,q05 b3,zev] at b6
       have HB:=qb (And.intro b1 (And.intro b2 b4))
       clear F V HF O HM HT H7 he b1 b2 b3 b4 HA
       generalize P.act k (c',m,e)=P2 at *
       go_wp2_with (with_reducible first|(first|refine' zr (qg ?_) ?_|refine' zt (qg ?_) ?_);rotate_left|refine' zu (qg ?_)|rfl|apply tn|refine' zv ?_)
       refine b6.mono ?_
       rintro ee w8 ⟨rfl,H8⟩
       obtain⟨X,hF,nF⟩:=qes w8 MsgV.zero qo
       have Y:=qb (H8.new nF)
       clear b6 cp hF nF H8
       go_upto_region 16 with (with_reducible first|(first|refine' zr (qg ?_) ?_|refine' zt (qg ?_) ?_);rotate_left|refine' zu (qg ?_)|rfl|apply tn|refine' zv ?_)
       change Code.wp _ _ _ _ (qea w8 MsgV.zero)
       generalize qea w8 MsgV.zero=w9 at Y ⊢
       clear X
       go_wp2_with (with_reducible first|(first|refine' zr (qg ?_) ?_|refine' zt (qg ?_) ?_);rotate_left|refine' zu (qg ?_)|rfl|apply tn|refine' zv ?_)
       go_roundw
       case rel =>
        obtain⟨b1,b2,b4⟩:=qa HB
        exact⟨k+1,by go_num,by omega,qb ⟨P2,g',b4,b1,b2,qa Y⟩⟩
       case measure=>simp[intOf];omega
      ·obtain rfl:k=2:=by omega
       obtain⟨P,g,D,sa,sb,H⟩:=qa hS
       have V:=ql3 z f q1p (by omega) H D ⟨sa (by decide),sb (by decide)⟩ D.mu
       clear hS D sa sb H
       go_wp2_with (with_reducible first|(first|refine' zr (qg ?_) ?_|refine' zt (qg ?_) ?_);rotate_left|refine' zu (qg ?_)|rfl|apply tn|refine' zv ?_)
       refine V.mono ?_
       rintro e w4 ⟨rfl,Z,g,y,hQ,M,hR⟩
       have q:=quiet_of (by omega) hQ hR
       have b9:=Fails.start (by omega) hQ hR M.1 M.2
       have e8:(Z.en 0).xs.length≤16:=(hQ.end f (by omega) (show 0<2 by decide)).inv.few
       have v0:((Z.en 0).k.shutSaid&&(Z.en 0).k.shutHeard&&(Z.en 0).xs.isEmpty)=(((Z.en 0).xs.length:Int)==0):=by
        rw[show (Z.en 0).k.shutSaid=true from M.1,show (Z.en 0).k.shutHeard=true from q.shut.2.symm.trans M.2]
        cases (Z.en 0).xs<;>rfl
       have v1:((Z.en 1).k.shutSaid&&(Z.en 1).k.shutHeard&&(Z.en 1).xs.isEmpty)=(((Z.en 0).xs.length:Int)==0):=by
        rw[show (Z.en 1).k.shutSaid=true from M.2,show (Z.en 1).k.shutHeard=true from q.shut.1.symm.trans M.1,←q.len1]
        cases (Z.en 1).xs<;>rfl
       have HV:=qb (And.intro v0 v1)
       have HF:=qb (And.intro hQ b9)
       have c0:=y.cell (show 0<2 by decide)
       have q2:=zed z y (show 0<2 by decide)
       clear V hQ M hR q b9 v0 v1 y
       go_wp2_with (with_reducible first|(first|refine' zr (qg ?_) ?_|refine' zt (qg ?_) ?_);rotate_left|refine' zu (qg ?_)|rfl|apply tn|refine' zv ?_)
       refine q2.mono ?_
       rintro e w5 ⟨xa,xc,Ks,rfl,N,hL⟩
       have c0:=N.cell (show 0<2 by decide)
       have q0:=qo9 z N (show 0<2 by decide)
       rw[(qa HV).1] at q0
       replace N:=qb N
       have HL:=qb hL
       clear q2 hL
       go_wp2_with (with_reducible first|(first|refine' zr (qg ?_) ?_|refine' zt (qg ?_) ?_);rotate_left|refine' zu (qg ?_)|rfl|apply tn|refine' zv ?_)
       refine q0.mono ?_
       rintro e w6 ⟨rfl,n6⟩
       have O:=(qa N).new n6
       have c1:=O.cell (show 1<2 by decide)
       have q1:=qo9 z O (show 1<2 by decide)
       rw[(qa HV).2] at q1
       replace O:=qb O
       clear n6 q0 N c0
       go_wp2_with (with_reducible first|(first|refine' zr (qg ?_) ?_|refine' zt (qg ?_) ?_);rotate_left|refine' zu (qg ?_)|rfl|apply tn|refine' zv ?_)
       refine q1.mono ?_
       rintro e w7 ⟨rfl,n7⟩
       have H7:=(qa O).new n7
       have HS:Hid (FaI (kon o c) w1 p (xs.length+2+1000) Ks (Z.en 0).xs 0 w7):=qb ⟨Z,g,(qa HF).1,(qa HF).2,H7⟩
       clear n7 q1 O c1 HF HV H7
       generalize (Z.en 0).xs=l at *
       go_wp2_with (with_reducible first|(first|refine' zr (qg ?_) ?_|refine' zt (qg ?_) ?_);rotate_left|refine' zu (qg ?_)|rfl|apply tn|refine' zv ?_)
       go_loopw [15] (fun iv wr=>∃i:Nat,iv = .int .i64 (i:Int)∧i≤l.length∧Hid (FaI (kon o c) w1 p (xs.length+2+1000) Ks l i wr)) (fun iv _=>l.length-(intOf iv).toNat)
       case atStart=>exact⟨0,rfl,Nat.zero_le _,HS⟩
       case round =>
        obtain⟨i,rfl,hi,hS⟩:=hrel
        obtain⟨wu,rfl⟩:∃wu:World,wu=wr:=⟨_,rfl⟩
        clear HS
        by_cases U:i<l.length
        ·have f0:(i:Int)<(l.length:Int):=by omega
         obtain⟨x,I⟩:∃x,l[i]? = some x:=⟨_,List.getElem?_eq_getElem U⟩
         obtain⟨P,g,D,L,H⟩:=qa hS
         obtain⟨b,rfl,-,-,ox,-⟩:=(H.liv (fun q h=>h) (qa HL)).row I
         have d3:l.drop i=x::l.drop (i+1):=by
          obtain⟨d5,rfl⟩:=List.getElem?_eq_some_iff.1 I
          exact List.drop_eq_getElem_cons d5
         rw[d3] at L
         obtain⟨a5,c5⟩:=L.step D
         have J:qkg x<2:=by unfold qkg;split<;>decide
         obtain⟨c7,E⟩:=D.fail f J x.h.id 1
         have a4:=qb (And.intro c7 c5)
         have hN:=(D.end f (by omega) J).news
         have b5:=D.long
         have R:qkg x=if x.own then 1 else 0:=rfl
         obtain⟨k,d4⟩:∃k,k=qkg x:=⟨_,rfl⟩
         unfold Pr.fails at a4
         rw[←d4] at a4 J E a5 hN R
         have HT:=qb (show (P.set k ((P.en k).fail x.h.id 1).1).wa.length<1000000∧(P.set k ((P.en k).fail x.h.id 1).1).wb.length<1000000 by rw[(qci _ _ _).1,(qci _ _ _).2];omega)
         have c2:=fun {w':World} {g':Nat→Nat} {P':Pr} {Ks':List Kp} (h:PrK w1 w' p g' P' Ks') (hs:∀q∈Ks,q∈Ks')=>q70 J h hs (qa HL) I
         generalize V:(P.en k).fail x.h.id 1=r at *
         obtain⟨c',m,e⟩:=r
         have a5:e=0:=a5
         subst a5
         have C:=E.len
         have HM:=qb E
         have H:=qb H
         simp only at C
         clear hS D L d3 c5 c7 E b5 d4
         have e5:(k:Int)<2:=by omega
         go_upto_if 127 with (with_reducible first|(first|refine' zr (qg ?_) ?_|refine' zt (qg ?_) ?_);rotate_left|refine' zu (qg ?_)|rfl|apply tn|refine' zv ?_)
         go_cut [16] from 127 to 127 (fun kv wx=>kv = .int .i64 (k:Int)∧Q wu wx)
         case first =>
          cases ho:x.own<;>rw[ho] at R
          all_goals
           first | (rw[if_neg (by decide)] at R) | (rw[if_pos rfl] at R)
           go_wp2_with (with_reducible first|(first|refine' zr (qg ?_) ?_|refine' zt (qg ?_) ?_);rotate_left|refine' zu (qg ?_)|rfl|apply tn|refine' zv ?_)
           go_meet
           case rel=>exact⟨by rw[R];rfl,by first | exact Q.refl _ | exact⟨1,rfl⟩ | exact⟨2,rfl⟩ | exact⟨3,rfl⟩⟩
         case rest =>
         obtain⟨rfl,qc⟩:=hcut
         obtain⟨wt,rfl⟩:∃wt:World,wt=wc:=⟨_,rfl⟩
         replace H:=qb ((qa H).new (qc.upd _))
         clear ox R qc
         go_upto_region 28 with (with_reducible first|(first|refine' zr (qg ?_) ?_|refine' zt (qg ?_) ?_);rotate_left|refine' zu (qg ?_)|rfl|apply tn|refine' zv ?_)
         go_cut [17,18] from 128 to 143 (fun kv ev wx=>∃Km g',kv = .pointer (some ⟨Km,0,none⟩)∧ev = .int .i64 0∧PrK w1 wx p g' (P.set k c') ((Km,m.cells.toArray,30)::Ks))
         case first =>
          refine qb5 (zcp p k (g k) b (i*38) x.h.id) [5,11] (.fork (.of [16,0,1,2,3,4,5,6,7,8,9,10,11,12,13,14,15,17,18]) (.of [0,1,2,3,4,5,6,7,8,9,10,11,12,13,14,15,16,17,18])) (by kernel_rfl) (by kernel_rfl) (c2 ((qa H).new ((Upd.refl (fun _=>False) wt).drew)) fun q h=>h) ?_
          simp only[Plan.of,Plan.pre]
          have d2:=c2 ((qa H).new ((Upd.refl (fun _=>False) wt).drew)) fun q h=>h
          refine qf ?_ ?_
          ·go_wp2_with (with_reducible first|(first|refine' qw1 (qg ?_) ?_|refine' qw2 (qg ?_) ?_|refine' qw3 (qg ?_) ?_);rotate_left|refine' qw4 (qg ?_)|refine' qw5 (qg ?_)|rfl|apply qn)
           have T:=((qa H).alloc MsgV.zero.cells.toArray 30).new ((Upd.refl (fun _=>False) (wt.alloc (.cells MsgV.zero.cells.toArray 30))).drew)
           have c3:=c2 T (fun q h=>List.mem_cons_of_mem _ h)
           first | refine⟨c3,?_⟩ | skip
           generalize (wt.alloc (.cells MsgV.zero.cells.toArray 30)).drew=f4 at c3 T ⊢
           generalize wt.heap.size=K3 at T ⊢
           replace T:=qb T
           try go_wp2_with (with_reducible first|(first|refine' qw1 (qg ?_) ?_|refine' qw2 (qg ?_) ?_|refine' qw3 (qg ?_) ?_);rotate_left|refine' qw4 (qg ?_)|refine' qw5 (qg ?_)|rfl|apply qn)
           have t:=q2p z (qa T) J x.h.id 1 (by omega)
           rw[V] at t
           refine t.mono ?_
           rintro ee w8 ⟨rfl,y⟩
           have c4:=c2 y (fun q h=>List.mem_cons_of_mem _ h)
           replace y:=qb y
           clear t
           have X:=(MsB.mk (qa y).one qo).stOk C
           have N:=qb ((qa y).put qo C)
           go_wp2_with (first | (with_reducible first|(first|refine' qw1 (qg ?_) ?_|refine' qw2 (qg ?_) ?_|refine' qw3 (qg ?_) ?_);rotate_left|refine' qw4 (qg ?_)|refine' qw5 (qg ?_)|rfl|apply qn) | refine⟨c4,?_⟩)
           go_meet
           case rel=>exact⟨K3,g,rfl,rfl,qa N⟩
          ·go_wp2_with (with_reducible first|(first|refine' qw1 (qg ?_) ?_|refine' qw2 (qg ?_) ?_|refine' qw3 (qg ?_) ?_);rotate_left|refine' qw4 (qg ?_)|refine' qw5 (qg ?_)|rfl|apply qn)
           have t:=q2p z ((qa H).new ((Upd.refl (fun _=>False) wt).drew)) J x.h.id 1 (by omega)
           rw[V] at t
           refine t.mono ?_
           rintro ee w8 ⟨rfl,T⟩
           have c3:=c2 T fun q h=>h
           replace T:=qb T
           clear t
           go_wp2_with (first | (with_reducible first|(first|refine' qw1 (qg ?_) ?_|refine' qw2 (qg ?_) ?_|refine' qw3 (qg ?_) ?_);rotate_left|refine' qw4 (qg ?_)|refine' qw5 (qg ?_)|rfl|apply qn) | refine⟨c3,?_⟩)
           have y:=(qa T).alloc MsgV.zero.cells.toArray 30
           have c4:=c2 y (fun q h=>List.mem_cons_of_mem _ h)
           go_wp2_with (with_reducible first|(first|refine' qw1 (qg ?_) ?_|refine' qw2 (qg ?_) ?_|refine' qw3 (qg ?_) ?_);rotate_left|refine' qw4 (qg ?_)|refine' qw5 (qg ?_)|rfl|apply qn)
           first | refine⟨c4,?_⟩ | skip
           generalize w8.alloc (.cells MsgV.zero.cells.toArray 30)=f5 at c4 y ⊢
           generalize w8.heap.size=K4 at y ⊢
           replace y:=qb y
           have X:=(MsB.mk (qa y).one qo).stOk C
           have N:=qb ((qa y).put qo C)
           try go_wp2_with (with_reducible first|(first|refine' qw1 (qg ?_) ?_|refine' qw2 (qg ?_) ?_|refine' qw3 (qg ?_) ?_);rotate_left|refine' qw4 (qg ?_)|refine' qw5 (qg ?_)|rfl|apply qn)
           go_meet
           case rel=>exact⟨K4,g,rfl,rfl,qa N⟩
         case rest =>
          obtain⟨Km,g',rfl,rfl,hX⟩:=hcut
          obtain⟨w3,rfl⟩:∃w3:World,w3=wc:=⟨_,rfl⟩
          have f1:=(MsB.mk hX.one C).row
          have F:=qop hX J m 0 (qa HM) (qa HT)
          clear hX V c2
          go_wp2_with (with_reducible first|(first|refine' zr (qg ?_) ?_|refine' zt (qg ?_) ?_);rotate_left|refine' zu (qg ?_)|rfl|apply tn|refine' zv ?_)
          refine F.mono ?_
          rintro ee w4 ⟨rfl,g',y⟩
          replace y:=qb y.drop
          clear F
          go_wp2_with (with_reducible first|(first|refine' zr (qg ?_) ?_|refine' zt (qg ?_) ?_);rotate_left|refine' zu (qg ?_)|rfl|apply tn|refine' zv ?_)
          go_roundw
          case rel=>exact⟨i+1,by go_num,U,qb ⟨_,_,(qa a4).1,(qa a4).2,qa y⟩⟩
          case measure=>simp[intOf];omega
        ·obtain rfl:i=l.length:=by omega
         obtain⟨P,g,D,L,H⟩:=qa hS
         rw[List.drop_length] at L
         have V:=ql3 z f (qw0 f) (by omega) H.bare D L D.mu
         clear hS D L H
         go_wp2_with (with_reducible first|(first|refine' zr (qg ?_) ?_|refine' zt (qg ?_) ?_);rotate_left|refine' zu (qg ?_)|rfl|apply tn|refine' zv ?_)
         refine V.mono ?_
         rintro e w9 ⟨rfl,Z,g,Y,hQ,M,hR⟩
         have q:=quiet_of (by omega) hQ hR
         obtain⟨x0,x1⟩:=M.none (by omega) hQ hR
         have v0:((Z.en 0).k.shutSaid&&(Z.en 0).k.shutHeard&&(Z.en 0).xs.isEmpty)=true:=by
          rw[show (Z.en 0).k.shutSaid=true from M.sa,show (Z.en 0).k.shutHeard=true from q.shut.2.symm.trans M.sb,show (Z.en 0).xs=[] from x0]
          rfl
         have v1:((Z.en 1).k.shutSaid&&(Z.en 1).k.shutHeard&&(Z.en 1).xs.isEmpty)=true:=by
          rw[show (Z.en 1).k.shutSaid=true from M.sb,show (Z.en 1).k.shutHeard=true from q.shut.1.symm.trans M.sa,show (Z.en 1).xs=[] from x1]
          rfl
         have HV:=qb v1
         obtain⟨_,_,_,_,-,-,p4⟩:=Y.cells
         rw[hQ.bad] at p4
         have c0:=Y.cell (show 0<2 by decide)
         have q0:=qo9 z Y (show 0<2 by decide)
         rw[v0] at q0
         replace Y:=qb Y
         clear V hQ M hR q x0 x1 v0 v1
         go_wp2_with (with_reducible first|(first|refine' zr (qg ?_) ?_|refine' zt (qg ?_) ?_);rotate_left|refine' zu (qg ?_)|rfl|apply tn|refine' zv ?_)
         refine q0.mono ?_
         rintro e f2 ⟨rfl,e0⟩
         have a8:=(qa Y).new e0
         have c1:=a8.cell (show 1<2 by decide)
         have q1:=qo9 z a8 (show 1<2 by decide)
         rw[qa HV] at q1
         have HN:=qb (e4.trans a8.n)
         clear e0 q0 Y c0 p4
         go_wp2_with (with_reducible first|(first|refine' zr (qg ?_) ?_|refine' zt (qg ?_) ?_);rotate_left|refine' zu (qg ?_)|rfl|apply tn|refine' zv ?_)
         refine q1.mono ?_
         rintro e f3 ⟨rfl,e1⟩
         have HN:=qb ((qa HN).trans e1)
         clear e1 q1 c1
         go_wp2_with (with_reducible first|(first|refine' zr (qg ?_) ?_|refine' zt (qg ?_) ?_);rotate_left|refine' zu (qg ?_)|rfl|apply tn|refine' zv ?_)
         go_ret
         exact⟨rfl,qa HN⟩
end Go.Proofs.YtjpmomdechibmaaGreatDoor
