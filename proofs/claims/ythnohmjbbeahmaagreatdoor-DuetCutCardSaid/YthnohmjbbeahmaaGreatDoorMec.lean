/-
  A duet, plain: a cut; two cuts are as one.
-/
import Derived.Test.YthnohmjbbeahmaaGreatDoorMea
import Derived.Test.YthnohmjbbeahmaaGreatDoorMdj
set_option linter.unusedVariables false
set_option linter.unusedSimpArgs false
namespace Go.Proofs.YthnohmjbbeahmaaGreatDoor
open Go.RowKit
theorem q7c(xs:List Live):∀x∈qd1 xs,x.state≠0∧x.state≠5:=by
 intro x i;obtain⟨y,l,rfl⟩:=List.mem_map.1 i;have g:y.state≠0:=by have:=(List.mem_filter.1 l).2;simpa using this
 unfold qae;split
 ·exact⟨(by show (4:Int)≠0;decide),(by show (4:Int)≠5;decide)⟩
 ·rename_i h;exact⟨g,h⟩
theorem q5i:∀ {xs:List Live},(∀x∈xs,x.state≠0∧x.state≠5)→qd1 xs=xs
 | [],_=>rfl
 | x::xs,h=>by
  obtain⟨i,l⟩:=h x (List.mem_cons_self ..);have g:=q5i (xs:=xs) fun y o=>h y (List.mem_cons_of_mem _ o)
  unfold qd1 at g ⊢;have m:(!(x.state==0))=true:=by simpa using i
  rw[List.filter_cons,if_pos m,List.map_cons,g];unfold qae;rw[if_neg l]
theorem qp4:∀ {xs:List Live} (c:Ch),(∀x∈xs,x.state≠0∧x.state≠5)→xs.foldl zc c=c
 | [],_,_=>rfl
 | x::xs,c,h=>by
  have e:zc c x=c:=by unfold zc;rw[if_neg (h x (List.mem_cons_self ..)).1]
  rw[List.foldl_cons,e];exact qp4 c fun y g=>h y (List.mem_cons_of_mem _ g)
theorem q5j(c:Ch):c.cut.cut=c.cut:=by
 have h:=q7c c.xs;have e:c.cut.cut=(c.cut.xs.foldl zc c.cut).unsaid (qd1 c.cut.xs):=rfl;have ex:c.cut.xs=qd1 c.xs:=rfl;rw[e,ex,qp4 _ h,q5i h];rfl
structure HearOne(c:Ch)(m:MsgV):Prop where
 ok:MsgOk m
 inv:c.Inv
 kind:3≤m.kind∧m.kind≤9
 last:c.last.length≤900000
 says:∀l∈(c.hears m).2.1,MsgOk l
 few:(c.hears m).2.1.length≤1000000
 err:(c.hears m).2.2=0
section
variable {K:Kon}{n k:Nat}{P Q:Pr}
theorem qsf(w:K.Ok)(x:n<100000)(h:PInv K n Q)(q:k<2){m:MsgV}{ms:List MsgV}(l:Q.way k=m::ms):HearOne (Q.en k) m∧(Q.heard k).1.en k=((Q.en k).hears m).1:=by
 have y:=h.hok w x q;have z:=(h.side q).1;have i:=(h.heard w x q).bad;obtain⟨a,b,wa,wb,bad⟩:=Q;have o:bad=false:=h.bad;subst o;rcases qbk q with rfl | rfl
 ·have l:wa=m::ms:=l;subst l;obtain⟨t,g,-⟩:=y;have i:(false || decide ((a.hears m).2.2≠0))=false:=i;rw[Bool.false_or] at i;have v:=Decidable.not_not.1 (of_decide_eq_false i);exact⟨⟨t,g.inv,g.kind,g.last,g.says,Nat.le_trans (Nat.le_add_left _ _) g.few,v⟩,rfl⟩
 ·have l:wb=m::ms:=l;subst l;obtain⟨t,g,-⟩:=y;have i:(false || decide ((b.hears m).2.2≠0))=false:=i;rw[Bool.false_or] at i;have v:=Decidable.not_not.1 (of_decide_eq_false i);exact⟨⟨t,g.inv,g.kind,g.last,g.says,Nat.le_trans (Nat.le_add_left _ _) g.few,v⟩,rfl⟩
theorem quz{α:Type}{l:List α}{i:Nat}(h:i<l.length):∃m,l.drop i=m::l.drop (i+1):=⟨_,List.drop_eq_getElem_cons h⟩
theorem zj6(l:K.Ok)(C:n<60000)(h:PInv K n P){i:Nat}(x:i<P.wa.length):∃m ms,(P.lets i 0).way 0=m::ms∧HearOne ((P.lets i 0).en 0) m∧(P.lets i 0).took 0 (((P.lets i 0).en 0).hears m).1 ms=P.lets (i+1) 0:=by
 obtain⟨m,o⟩:=quz x;obtain⟨r,t,v,z⟩:=qh1 P i;obtain⟨D,q,-,-⟩:=qh1 P (i+1);have w:=h.heardN l (by omega) (k:=0) (by decide) i;obtain⟨y,g⟩:=qsf l (by omega) w (k:=0) (by decide) (m:=m) (ms:=P.wa.drop (i+1)) (by rw[←o];exact v);refine⟨m,P.wa.drop (i+1),o,y,?_⟩;show (⟨((P.heardN 0 i).a.hears m).1,(P.heardN 0 i).b,P.wa.drop (i+1),P.wb.drop 0,false⟩:Pr)=⟨(P.heardN 0 (i+1)).a,(P.heardN 0 (i+1)).b,P.wa.drop (i+1),P.wb.drop 0,false⟩;rw[q,t];have g:(P.heardN 0 (i+1)).a=((P.heardN 0 i).a.hears m).1:=g;rw[g]
theorem zj7(g:K.Ok)(H:n<60000)(h:PInv K n P)(i:Nat){j:Nat}(w:j<P.wb.length):∃m ms,(P.lets i j).way 1=m::ms∧HearOne ((P.lets i j).en 1) m∧(P.lets i j).took 1 (((P.lets i j).en 1).hears m).1 ms=P.lets i (j+1):=by
 obtain⟨m,q⟩:=quz w;obtain⟨r,E,F,o⟩:=qh1 P i;have x:j≤(P.heardN 0 i).wb.length:=by rw[o,List.length_append];omega
 obtain⟨I,C,t,D⟩:=qne (P.heardN 0 i) j x;have v:=(h.heardN g (by omega) (k:=0) (by decide) i).heardN g (by omega) (k:=1) (by decide) j;have y:((P.heardN 0 i).heardN 1 j).way 1=m::(P.wb.drop (j+1)++r):=by
  show ((P.heardN 0 i).heardN 1 j).wb=_;rw[t,o,List.drop_append_of_le_length (by omega),q];rfl
 obtain⟨z,l⟩:=qsf g (by omega) v (k:=1) (by decide) y;refine⟨m,P.wb.drop (j+1),q,z,?_⟩;show (⟨(P.heardN 0 i).a,(((P.heardN 0 i).heardN 1 j).b.hears m).1,P.wa.drop i,P.wb.drop (j+1),false⟩:Pr)=⟨(P.heardN 0 i).a,((P.heardN 0 i).heardN 1 (j+1)).b,P.wa.drop i,P.wb.drop (j+1),false⟩;have l:((P.heardN 0 i).heardN 1 (j+1)).b=(((P.heardN 0 i).heardN 1 j).b.hears m).1:=l;rw[l]
theorem q8o(h:P.bad=false):P.lets 0 0=P:=by
 obtain⟨a,b,wa,wb,bad⟩:=P;have h:bad=false:=h;subst h;rfl
theorem qnh(c:Ch){m:MsgV}(h:m.kind=9):(c.hears m).1=c:=by
 unfold Ch.hears;rw[if_pos h];split<;>rfl
noncomputable def Pr.told(P:Pr):Pr:=⟨P.a.cut,P.b.cut,(P.b.cut.hears P.a.cut.again).2.1,(P.a.cut.hears P.b.cut.again).2.1,false⟩
theorem qzo(I:K.Ok)(J:n<60000)(h:PInv K n P):HearOne P.a.cut P.b.cut.again∧HearOne P.b.cut P.a.cut.again∧PInv K n P.told∧(((P.cuts.heard 0).1).heard 1).1=P.told:=by
 obtain⟨D,E,z,F,H⟩:=h.cut I J;have o:=z.bad;obtain⟨a,b,wa,wb,bad⟩:=P;have i:bad=false:=h.bad;subst i;have ea:(a.cut.hears b.cut.again).1=a.cut:=qnh _ rfl;have eb:(b.cut.hears a.cut.again).1=b.cut:=qnh _ rfl;have C:((((Pr.cuts ⟨a,b,wa,wb,false⟩).heard 0).1).heard 1).1=⟨(a.cut.hears b.cut.again).1,(b.cut.hears a.cut.again).1,[]++(b.cut.hears a.cut.again).2.1,(a.cut.hears b.cut.again).2.1,(false || decide ((a.cut.hears b.cut.again).2.2≠0)) || decide ((b.cut.hears a.cut.again).2.2≠0)⟩:=rfl;rw[C] at o;simp only[Bool.false_or,Bool.or_eq_false_iff] at o;have w:=Decidable.not_not.1 (of_decide_eq_false o.1);have x:=Decidable.not_not.1 (of_decide_eq_false o.2);obtain⟨-,g,-⟩:=D;obtain⟨-,m,-⟩:=E;have f2:=m.few;have q:b.cut.Inv:=m.inv;have t:b.cut.last.length≤900000:=m.last;have v:∀l∈(b.cut.hears a.cut.again).2.1,MsgOk l:=m.says;have f2:_+(b.cut.hears a.cut.again).2.1.length≤1000000:=f2;have y:((((Pr.cuts ⟨a,b,wa,wb,false⟩).heard 0).1).heard 1).1=Pr.told ⟨a,b,wa,wb,false⟩:=by
  rw[C,w,x,ea,eb];rfl
 refine⟨⟨H,g.inv,g.kind,g.last,g.says,?_,w⟩,⟨F,q,⟨by show (3:Int)≤9;decide,by show (9:Int)≤9;decide⟩,t,v,?_,x⟩,?_,y⟩
 ·exact Nat.le_trans (Nat.le_add_left _ _) g.few
 ·exact Nat.le_trans (Nat.le_add_left _ _) f2
 ·rw[←y];exact z
def qeu(l:List MsgV)(x:Int):Nat:=l.length-min (x.toNat) l.length
noncomputable def Pr.cutD(P:Pr)(x y:Int):Pr:=((P.heardN 0 (qeu P.wa x)).heardN 1 (qeu P.wb y)).told
theorem PInv.cutD(g:K.Ok)(i:n<60000)(h:PInv K n P)(x y:Int):PInv K n (P.cutD x y) :=
 (qzo g i ((h.heardN g (by omega) (k:=0) (by decide) _).heardN g (by omega) (k:=1) (by decide) _)).2.2.1
theorem zir(P:Pr){i j:Nat}(w:j≤P.wb.length):((P.heardN 0 i).heardN 1 j).a=(P.lets i j).a∧((P.heardN 0 i).heardN 1 j).b=(P.lets i j).b:=by
 obtain⟨r,t,v,l⟩:=qh1 P i;have m:j≤(P.heardN 0 i).wb.length:=by rw[l,List.length_append];omega
 obtain⟨x,g,o,q⟩:=qne (P.heardN 0 i) j m;exact⟨g,rfl⟩
theorem q9w(P:Pr):P.told.told=P.told:=by
 have e:P.told.told=⟨P.a.cut.cut,P.b.cut.cut,(P.b.cut.cut.hears P.a.cut.cut.again).2.1,(P.a.cut.cut.hears P.b.cut.cut.again).2.1,false⟩:=rfl;rw[e,q5j,q5j];rfl
theorem zau{x y x' y':Int}(l:(P.cutD x y).wa.length≤x')(m:(P.cutD x y).wb.length≤y'):(P.cutD x y).cutD x' y'=P.cutD x y:=by
 have g:qeu (P.cutD x y).wa x'=0:=by unfold qeu;omega
 have i:qeu (P.cutD x y).wb y'=0:=by unfold qeu;omega
 show (((P.cutD x y).heardN 0 (qeu (P.cutD x y).wa x')).heardN 1 (qeu (P.cutD x y).wb y')).told=_;rw[g,i];exact q9w _
theorem PInv.few(h:PInv K n P):P.wa.length≤500∧P.wb.length≤500:=by
 have i:=h.mu;have e:∀l:List MsgV,l.length≤mwL l:=by
  intro l
  induction l with
  | nil=>exact Nat.le_refl _
  | cons m l q =>
   have g:mwL (m::l)=mwt m+mwL l:=rfl;have o:1≤mwt m:=by unfold mwt;split<;>decide
   rw[g,List.length_cons];omega
 have:=e P.wa;have:=e P.wb;unfold Pr.mu at i;omega
end
theorem q0q{R:Nat→Prop} : ∀m,R m→∃n,R n∧∀k,R k→n≤k:=by
 intro m
 induction m using Nat.strongRecOn with
 | ind m q =>
  intro h;by_cases i:∃k,k<m∧R k
  ·obtain⟨k,g,l⟩:=i;exact q k g l
  ·exact⟨m,h,fun k o=>by
    rcases Nat.lt_or_ge k m with g | g
    ·exact absurd ⟨k,g,o⟩ i
    ·exact g⟩
noncomputable def qnl(R:Nat→Prop):Nat:=open Classical in if h:∃n,R n∧∀k,R k→n≤k then Classical.choose h else 0
theorem q8l{R:Nat→Prop}{m:Nat}(h:R m):qnl R≤m:=by
 have e:=q0q m h;unfold qnl;rw[dif_pos e];exact(Classical.choose_spec e).2 m h
theorem q3q{R:Nat→Prop}{m:Nat}(h:R m):R (qnl R):=by
 have e:=q0q m h;unfold qnl;rw[dif_pos e];exact(Classical.choose_spec e).1
theorem zcg{R:Nat→Prop}{m:Nat}(h:R m):∃L,L=qnl R∧R L:=⟨_,rfl,q3q h⟩
def RsW(K:Kon)(N:Nat)(P:Pr)(w0 w:World)(p:Nat)(S:Nat→Prop)(hv i:Value)(wr:World)(m:Nat):Prop:=∃h g R,hv = .int .i64 ((h:Nat):Int)∧i = .bool g∧RsD K N P h g R∧DSt w0 w p S wr R∧m=R.mu+b2n g
noncomputable def Pr.bk(R:Pr)(i:Nat):Bool:=decide (0<R.ck i)
theorem zia{R:Pr}{i c:Nat}(h:R.ck i=c+1):R.bk i=true:=decide_eq_true (by omega)
theorem q0e{K:Kon}{n k:Nat}{P:Pr}(g:K.Ok)(o:n<99000)(h:PInv K n P)(i:k<2){m:MsgV}{ms:List MsgV}(l:P.way k=m::ms):HearsOk P k m ms :=
 ⟨l,h.hok g (by omega) i,(qsf g (by omega) h i l).1.err⟩
theorem zim{R:Pr}{i:Nat}(g:i<2):((R.hk i).way i=[]→R.hk (i+1)=R.hk i∧R.ck (i+1)=R.ck i)∧∀m ms,(R.hk i).way i=m::ms→R.ck (i+1)=R.ck i+1:=by
 refine⟨fun h=> ?_,fun m ms h=> ?_⟩
 ·have e:=qmi g h;show ((R.hk i).heard i).1=_∧R.ck i+b2n ((R.hk i).heard i).2=_;rw[e];exact⟨rfl,rfl⟩
 ·show R.ck i+b2n ((R.hk i).heard i).2=_;rw[(qnf g h).2];rfl
section
variable {w0 w:World}{p:Nat}{S:Nat→Prop}{K:Kon}{N:Nat}{P:Pr}
set_option maxRecDepth 100000 in
set_option maxHeartbeats 4000000 in
theorem qhk(hT:Tb w0)(y:K.Ok)(hN:N<60000)(h:DuD w0 w p S P)(hB:Bnd K N P) :
  Calls Tryz.prog 13 #[.pointer (some ⟨p,0,none⟩)] w fun e w'=>e = .returned (.int .i64 (P.restN:Int))∧DSt w0 w p S w' P.restD:=by
 have H:=qb h
 have c8:P.mu<500:=by obtain⟨n,h1,t⟩:=hB;exact h1.mu
 have HS:Hid (RsW K N P w0 w p S (.int .i64 0) (.bool true) w (P.mu+1)):=qb ⟨0,true,P,rfl,rfl,RsD.start hB,DSt.refl h,rfl⟩
 have hB:=qb hB
 clear h
 go_enter Tryz.func13,Tryz.ntmps13
 go_wp2_with (with_reducible first|(first|refine' zi (qg ?_) ?_|refine' zj (qg ?_) ?_);rotate_left|refine' zk (qg ?_)|rfl|apply tn|refine' zl ?_)
 go_loopw [3,4] (fun hv x wr=>∃m,Hid (RsW K N P w0 w p S hv x wr m)) (fun hv x wr=>qnl (RsW K N P w0 w p S hv x wr))
 case atStart=>exact⟨_,HS⟩
 case round =>
  obtain⟨m,o⟩:=hrel;obtain⟨wq,rfl⟩:∃wq:World,wq=wr:=⟨_,rfl⟩;obtain⟨L,a4,hL⟩:=zcg (qa o);have b5:=qb a4;have O:∀hv x wx m',RsW K N P w0 w p S hv x wx m'→qnl (RsW K N P w0 w p S hv x wx)≤m':=fun _ _ _ _ h=>q8l h
  obtain⟨hh,go,R,rfl,rfl,X,hD,M⟩:=hL;have c3:=X.few y (by omega) (qa hB);have c7:(hh:Int)<500:=by omega
  clear o HS a4;cases go with
  | false =>
   obtain⟨e1,v,e3,e4⟩:=X.stop;have HD:=qb (And.intro hD (And.intro e1 v));clear hD X e1 v e3 e4 O M;go_wp2_with (with_reducible first|(first|refine' zi (qg ?_) ?_|refine' zj (qg ?_) ?_);rotate_left|refine' zk (qg ?_)|rfl|apply tn|refine' zl ?_);go_ret;obtain⟨h1,t,h3⟩:=qa HD;exact⟨by rw[h3];rfl,by rw[t];exact h1⟩
  | true =>
   have HR:=qb X;have b6:=qb O;have HL:=qb M;have z:=X.bnd;have F:=qb z;have a9:∀i,i≤2→R.ck i≤500:=fun i hi=>by
    have:=(q5r y (by omega) z i hi).1;obtain⟨n,a1,a2⟩:=z;have:=a1.mu;omega
   have I:=qb a9;have HD:=qb hD;clear hD X O M z a9;go_wp2_with (with_reducible first|(first|refine' zi (qg ?_) ?_|refine' zj (qg ?_) ?_);rotate_left|refine' zk (qg ?_)|rfl|apply tn|refine' zl ?_)
   go_loopw [3,4,8] (fun hv x W wr=>∃i:Nat,i≤2∧W = .int .i64 (i:Int)∧hv = .int .i64 ((hh+R.ck i:Nat):Int)∧x = .bool (R.bk i)∧Hid (DSt w0 w p S wr (R.hk i))) (fun _ _ W _=>2-(intOf W).toNat)
   case atStart=>exact⟨0,by decide,rfl,rfl,rfl,HD⟩
   case round =>
    obtain⟨i,hi,rfl,rfl,rfl,o⟩:=hrel;obtain⟨wv,rfl⟩:∃wv:World,wv=wr:=⟨_,rfl⟩;clear HD;by_cases l:i<2
    ·have b9:(i:Int)<2:=by omega
     obtain⟨l1,l2⟩:=zim (R:=R) l;have c5:=qa I i (by omega);have hd:=(qa o).1;obtain⟨n,a1,a2⟩:=(qa F).hk y (by omega) i (by omega);have V:=qrz hT hd (i:Int) i (ql3 l);obtain⟨g,T,u,hU⟩:=hd;have b3:=hU.row i l;obtain⟨ua,uc,hu⟩:=b3.shape;have c:=hU.cellW l;rw[hu] at c;have J:=qb (show ∀m ms,(R.hk i).way i=m::ms→HearsOk (R.hk i) i m ms from fun m ms D=>q0e y (by omega) a1 l D);clear hU b3 hu a1 a2;have c6:(((hh+R.ck i:Nat):Int))<1001:=by omega
     cases D:(R.hk i).way i with
     | nil =>
      obtain⟨e1,v⟩:=l1 D;rw[D] at c;have e3:R.bk (i+1)=R.bk i:=by unfold Pr.bk;rw[v]
      have q:Hid (DSt w0 w p S wv (R.hk (i+1))):=qb (by rw[e1];exact qa o);simp only[List.length_nil] at c;clear V D l1 l2 o J e1;have Z:=qb (And.intro v e3);clear v e3;generalize R.ck i=cc at *
      generalize R.bk i=bb at *
      go_wp2_with (with_reducible first|(first|refine' zi (qg ?_) ?_|refine' zj (qg ?_) ?_);rotate_left|refine' zk (qg ?_)|rfl|apply tn|refine' zl ?_);go_roundw
      case rel=>exact⟨i+1,by omega,by go_num,by rw[(qa Z).1],by rw[(qa Z).2],q⟩
      case measure=>simp[intOf];omega
     | cons m ms =>
      have v:=l2 m ms D;have E:=V m ms (qa J m ms D);rw[D] at c;have c0:(0:Int)<((m::ms).length:Int):=by rw[List.length_cons];omega
      generalize (m::ms).length=nl at c c0;have Z:=qb (And.intro v (zia v));clear V D l1 l2 J v;generalize R.ck i=cc at *
      generalize R.bk i=bb at *
      go_wp2_with (with_reducible first|(first|refine' zi (qg ?_) ?_|refine' zj (qg ?_) ?_);rotate_left|refine' zk (qg ?_)|rfl|apply tn|refine' zl ?_);refine E.mono ?_;rintro e w2 ⟨rfl,t⟩;have q:Hid (DSt w0 w p S w2 (R.hk (i+1))):=qb (DSt.trans (qa H) (qa o) t);clear E t c o;go_wp2_with (with_reducible first|(first|refine' zi (qg ?_) ?_|refine' zj (qg ?_) ?_);rotate_left|refine' zk (qg ?_)|rfl|apply tn|refine' zl ?_);go_roundw
      case rel=>exact⟨i+1,by omega,by go_num,by rw[(qa Z).1];go_num,by rw[(qa Z).2],q⟩
      case measure=>simp[intOf];omega
    ·obtain rfl:i=2:=by omega
     have c4:=qa I 2 (by decide);have a7:Hid (DSt w0 w p S wv (R.sk 0)):=o;have hg:R.bk 2=R.gk 0:=rfl;rw[hg];clear o I hg;generalize a8:hh+R.ck 2=cc at *
     have b4:=qb a8;clear a8;rw[show ((2:Nat):Int)=2 from rfl];go_wp2_with (with_reducible first|(first|refine' zi (qg ?_) ?_|refine' zj (qg ?_) ?_);rotate_left|refine' zk (qg ?_)|rfl|apply tn|refine' zl ?_)
     go_loopw [4,25] (fun x W wr=>∃i:Nat,i≤2∧W = .int .i64 (i:Int)∧x = .bool (R.gk i)∧Hid (DSt w0 w p S wr (R.sk i))) (fun _ W _=>2-(intOf W).toNat)
     case atStart=>exact⟨0,by decide,rfl,rfl,a7⟩
     case round =>
      obtain⟨i,hi,rfl,rfl,o⟩:=hrel;obtain⟨Y,rfl⟩:∃Y:World,Y=wr:=⟨_,rfl⟩;clear a7;by_cases l:i<2
      ·have b9:(i:Int)<2:=by omega
       obtain⟨n,a1,a2⟩:=(qa F).sk y (by omega) i (by omega);have c2:=a1.few;have E:=qpb hT (qa o).1 (i:Int) i (ql3 l) ((a1.end y (by omega) l).sign y (by omega)) (a1.sign y l).2 (by
        rcases qbk l with rfl | rfl
        ·show (R.sk 0).wb.length<_;omega
        ·show (R.sk 1).wa.length<_;omega)
       have E:Calls Tryz.prog 16 #[.pointer (some ⟨p,0,none⟩),.int .i64 (i:Int)] Y fun e w'=>e = .returned (.int .i64 ((R.sk i).en i).sign.2.2)∧DSt w0 Y p (Fr S w Y) w' (R.sk (i+1)):=E
       have C:R.gk (i+1)=(R.gk i || (((R.sk i).en i).sign.2.2==0)):=rfl;generalize ((R.sk i).en i).sign.2.2=er at *
       clear a1 a2 c2;by_cases e0:er=0
       ·subst e0;have HG:Hid (R.gk (i+1)=true):=qb (by rw[C];simp);clear C;generalize R.gk i=bb at *
        go_wp2_with (with_reducible first|(first|refine' zi (qg ?_) ?_|refine' zj (qg ?_) ?_);rotate_left|refine' zk (qg ?_)|rfl|apply tn|refine' zl ?_);refine E.mono ?_;rintro e w2 ⟨rfl,t⟩;have q:Hid (DSt w0 w p S w2 (R.sk (i+1))):=qb (DSt.trans (qa H) (qa o) t);clear E t o;go_wp2_with (with_reducible first|(first|refine' zi (qg ?_) ?_|refine' zj (qg ?_) ?_);rotate_left|refine' zk (qg ?_)|rfl|apply tn|refine' zl ?_);go_roundw
        case rel=>exact⟨i+1,by omega,by go_num,by rw[qa HG],q⟩
        case measure=>simp[intOf];omega
       ·have c1:(er==0)=false:=beq_eq_false_iff_ne.2 e0;have HG:Hid (R.gk (i+1)=R.gk i):=qb (by rw[C,c1,Bool.or_false]);clear C;generalize R.gk i=bb at *
        go_wp2_with (with_reducible first|(first|refine' zi (qg ?_) ?_|refine' zj (qg ?_) ?_);rotate_left|refine' zk (qg ?_)|rfl|apply tn|refine' zl ?_);refine E.mono ?_;rintro e w2 ⟨rfl,t⟩;have q:Hid (DSt w0 w p S w2 (R.sk (i+1))):=qb (DSt.trans (qa H) (qa o) t);clear E t o;go_wp2_with (with_reducible first|(first|refine' zi (qg ?_) ?_|refine' zj (qg ?_) ?_);rotate_left|refine' zk (qg ?_)|rfl|apply tn|refine' zl ?_);go_roundw
        case rel=>exact⟨i+1,by omega,by go_num,by rw[qa HG],q⟩
        case measure=>simp[intOf];omega
      ·obtain rfl:i=2:=by omega
       have U:RsW K N P w0 w p S (.int .i64 ((cc:Nat):Int)) (.bool (R.gk 2)) Y ((R.sk 2).mu+b2n (R.gk 2)):=⟨cc,R.gk 2,R.sk 2,rfl,rfl,by rw[←qa b4];exact(qa HR).next y (by omega),qa o,rfl⟩;have a5:(R.sk 2).mu+b2n (R.gk 2)<L:=by
        rw[qa HL];obtain⟨s1,s2⟩:=qm3 y (by omega) (qa F) 2 (Nat.le_refl _);cases hg:R.gk 2 with
        | true=>have:=s1 hg;show _+1<_+1;omega
        | false=>rw[(s2 hg).1];show _+0<_+1;omega
       have a6:=Nat.lt_of_le_of_lt (qa b6 _ _ _ _ U) a5;have b8:=qb U;have b7:=qb a6;clear U a5 a6 o;generalize R.gk 2=bb at *
       go_wp2_with (with_reducible first|(first|refine' zi (qg ?_) ?_|refine' zj (qg ?_) ?_);rotate_left|refine' zk (qg ?_)|rfl|apply tn|refine' zl ?_);go_roundw
       case rel=>exact⟨_,b8⟩
       case measure =>
        have hq:=qa b7;rw[qa b5] at hq;exact hq
end
attribute [local go_sem ↓ high] qab qan qar qaw zy zz z7 qaa
attribute [local go_sem] qcr qde qdn zb qb2 qcb qci qbi
set_option maxRecDepth 100000 in
set_option maxHeartbeats 2000000 in
theorem q2y{w0 w:World}{p:Nat}{S:Nat→Prop}{P:Pr}(I:DuD w0 w p S P)(C T:Nat)(id:Int)(x:Int)(K L M:Nat)(r:Ch × MsgV × Int)
  (N:w.cell? ⟨K,0,none⟩=some (.func (.func 33) #[.pointer (some ⟨T,0,none⟩)] #[])) (O:w.cell? ⟨L,0,none⟩=some (.int .u64 id)) (R:w.cell? ⟨M,0,none⟩=some (.int .i64 x))
  (z:MsgOk r.2.1)
  (t:∀W,qq w W→Calls Tryz.prog 33 #[.pointer (some ⟨T,0,none⟩),.int .u64 id,.int .i64 x] W fun e w' =>
   e = .returned (.tuple #[.agg r.2.1.cells.toArray,.int .i64 r.2.2])∧DSt w0 W p S w' (P.set C r.1)) :
  Calls Tryz.prog 53 #[.pointer (some ⟨K,0,none⟩),.pointer (some ⟨L,0,none⟩),.pointer (some ⟨M,0,none⟩)] w fun e w' =>
   e = .returned (.tuple #[.agg r.2.1.cells.toArray,.int .i64 r.2.2])∧DSt w0 w p S w' (P.set C r.1):=by
 have i:=z.len
 have H:=qb I
 have b0:=qbz w MsgV.zero qu
 have l:qq w (w.alloc (.cells MsgV.zero.cells.toArray 71)):=(Upd.refl _ _).alloc _
 have hE:∀args w,(callFunc 33 args).run Tryz.prog w = .ok (.enter 33 args) w:=enters_of Tryz.func33 (by kernel_rfl) rfl
 clear I
 go_enter Tryz.func53,Tryz.ntmps53
 go_upto_region 1 with (with_reducible first|(first|refine' zi (qg ?_) ?_|refine' zj (qg ?_) ?_);rotate_left|refine' zk (qg ?_)|rfl|apply tn|refine' zl ?_)
 generalize w.alloc (.cells MsgV.zero.cells.toArray 71)=w1 at b0 l ⊢
 obtain⟨B,U⟩:∃B,B=w.heap.size:=⟨_,rfl⟩
 rw[←U] at b0 ⊢
 have q:¬S B:=fun e=>by have:=((qa H).lt B e).2;omega
 have a4:=b0.lt
 have a5:w.heap.size≤B:=by omega
 have X:=l.cell N (fun h=>h)
 have Y:=l.cell O (fun h=>h)
 have Z:=l.cell R (fun h=>h)
 have t:=t w1 l
 have J:=qb l
 have V:=qb b0
 clear U N O R l b0
 go_wp2_with (with_reducible first|(first|refine' zi (qg ?_) ?_|refine' zj (qg ?_) ?_);rotate_left|refine' zk (qg ?_)|rfl|apply tn|refine' zl ?_)
 refine t.mono ?_
 rintro e E ⟨rfl,o⟩
 have v:=(qa V).upd o.2 q
 have stB:=v.stOk i
 have F:=v.put i
 have D:Upd (· = B) E (E.setCells B 0 r.2.1.cells):=qac _
 have a8:=o.2.size
 have g:DSt w0 w p S (E.setCells B 0 r.2.1.cells) (P.set C r.1):=by
  have a6:=(qa H).n.size;have a7:=(qa J).size;refine DSt.fin (qa H) (o.1.upd D (fun b e=> ?_)) ?_ ?_
  ·subst e;refine⟨?_,by omega⟩;rintro (e | e)
   ·exact q e
   ·omega
  ·rintro b (e | e)
   ·exact .inl e
   ·exact .inr (by omega)
  ·refine((qa J).mono (fun _ _ h=>h.elim)).trans ((o.2.mono (fun _ _ h=> .inl h)).trans (D.mono ?_));rintro b hb rfl;exact .inr (by omega)
 have m:=qb g
 have y:=qb F
 clear t o v F D g X Y Z
 go_wp2_with (with_reducible first|(first|refine' zi (qg ?_) ?_|refine' zj (qg ?_) ?_);rotate_left|refine' zk (qg ?_)|rfl|apply tn|refine' zl ?_)
 refine bodyPost_ret (qs rfl _ _ B _ _ _ _ rfl (qa y).at_ Tryz.underlying71 rfl (by rw[List.size_toArray,r.2.1.len i];exact Tryz.infoMsg)) rfl ?_
 exact⟨rfl,qa m⟩
set_option maxRecDepth 100000 in
set_option maxHeartbeats 2000000 in
theorem q2z{w0 w:World}{p:Nat}{S:Nat→Prop}{P:Pr}(h:DuD w0 w p S P)(k:Int)(v t:Nat)(L:sd k=v)(id:Int)(x:Int)(r:Ch × MsgV × Int)(i:MsgOk r.2.1)(F:(P.way (1-v)).length<1000000)
  (hO:∀W,qq w W→Calls Tryz.prog 33 #[.pointer (some ⟨t,0,none⟩),.int .u64 id,.int .i64 x] W fun e w' =>
   e = .returned (.tuple #[.agg r.2.1.cells.toArray,.int .i64 r.2.2])∧DSt w0 W p S w' (P.set v r.1)) :
  Calls Tryz.prog 32 #[.pointer (some ⟨p,0,none⟩),.int .i64 k,.func (.func 33) #[.pointer (some ⟨t,0,none⟩)] #[],.int .u64 id,.int .i64 x] w fun e w' =>
   e = .returned (.int .i64 r.2.2)∧DSt w0 w p S w' (P.act v r):=by
 have H:=qb h
 have g:∀(W:World) (n:qq w W) (m o q:Nat) (C:W.cell? ⟨m,0,none⟩=some (.func (.func 33) #[.pointer (some ⟨t,0,none⟩)] #[])) (D:W.cell? ⟨o,0,none⟩=some (.int .u64 id)) (E:W.cell? ⟨q,0,none⟩=some (.int .i64 x)),_:=fun W n m o q C D E=>qlj ((qa H).new n) k v L 53 #[] #[.pointer (some ⟨m,0,none⟩),.pointer (some ⟨o,0,none⟩),.pointer (some ⟨q,0,none⟩)] (enters_of Tryz.func53 (by kernel_rfl) rfl) r i F (fun W' I=>q2y ((qa H).new (n.trans I)) v t id x m o q r (I.cell C (fun h=>h)) (I.cell D (fun h=>h)) (I.cell E (fun h=>h)) i (fun W2 y=>hO W2 ((n.trans I).trans y)))
 have hM:=ql2 i
 generalize P.act v r=P' at g ⊢
 generalize qox r=M at g hM ⊢
 have l:=qb g
 have a4:=qd9
 clear g i F hO h
 go_enter Tryz.func32,Tryz.ntmps32
 go_upto_region 1 with (with_reducible first|(first|refine' zi (qg ?_) ?_|refine' zj (qg ?_) ?_);rotate_left|refine' zk (qg ?_)|rfl|apply tn|refine' zl ?_)
 have O:qq w (w.alloc (.cells #[.func (.func 33) #[.pointer (some ⟨t,0,none⟩)] #[]] 82)):=(Upd.refl _ _).alloc _
 obtain⟨m,U⟩:=qc8 (W:=w) rfl (.cells #[.func (.func 33) #[.pointer (some ⟨t,0,none⟩)] #[]] 82)
 generalize w.alloc (.cells #[.func (.func 33) #[.pointer (some ⟨t,0,none⟩)] #[]] 82)=w1 at O m U ⊢
 have y:qq w1 (w1.alloc (.cells #[.int .u64 id] 27)):=(Upd.refl _ _).alloc _
 obtain⟨o,V⟩:=qc8 U (.cells #[.int .u64 id] 27)
 generalize w1.alloc (.cells #[.int .u64 id] 27)=R at y o V ⊢
 have J:qq R (R.alloc (.cells #[.int .i64 x] 3)):=(Upd.refl _ _).alloc _
 obtain⟨q,z3⟩:=qc8 V (.cells #[.int .i64 x] 3)
 generalize R.alloc (.cells #[.int .i64 x] 3)=K at J q z3 ⊢
 have C:K.cell? ⟨w.heap.size,0,none⟩=some (.func (.func 33) #[.pointer (some ⟨t,0,none⟩)] #[]):=(y.trans J).cell (qh m 0) (fun h=>h)
 have D:K.cell? ⟨w.heap.size+1,0,none⟩=some (.int .u64 id):=J.cell (qh o 0) (fun h=>h)
 have E:K.cell? ⟨(w.heap.size+1+1),0,none⟩=some (.int .i64 x):=qh q 0
 have nw:=(O.trans y).trans J
 have hs:=qa l K nw _ _ _ C D E
 have Y:=qb nw
 clear O y J m o q U V z3 nw l
 generalize w.heap.size=z at *
 go_wp2_with (with_reducible first|(first|refine' zi (qg ?_) ?_|refine' zj (qg ?_) ?_);rotate_left|refine' zk (qg ?_)|rfl|apply tn|refine' zl ?_)
 refine hs.mono ?_
 rintro e T ⟨rfl,Z⟩
 obtain⟨N,hA,nA⟩:=qgs T M hM
 have X:=qb ((DSt.after (qa H) (qa Y) Z).then (qa H).n.size (qa H).lt nA)
 clear hs Z hA nA Y C D E
 go_upto_region 2 with (with_reducible first|(first|refine' zi (qg ?_) ?_|refine' zj (qg ?_) ?_);rotate_left|refine' zk (qg ?_)|rfl|apply tn|refine' zl ?_)
 change Code.wp _ _ _ _ (qg8 T M)
 generalize qg8 T M=wB at X ⊢
 clear N
 go_wp2_with (with_reducible first|(first|refine' zi (qg ?_) ?_|refine' zj (qg ?_) ?_);rotate_left|refine' zk (qg ?_)|rfl|apply tn|refine' zl ?_)
 go_ret
 exact⟨rfl,qa X⟩
set_option maxRecDepth 100000 in
set_option maxHeartbeats 2000000 in
theorem q7g{w0 w:World}{p:Nat}{S:Nat→Prop}{P:Pr}(R:Tb w0)(h:DuD w0 w p S P)(k:Int)(l:Nat)(o:sd k=l)(id:Int)(x:Int)(m:(P.en l).news.length<1000000)(v:MsgOk ((P.en l).fail id x).2.1)(t:(P.way (1-l)).length<1000000) :
  Calls Tryz.prog 14 #[.pointer (some ⟨p,0,none⟩),.int .i64 k,.int .u64 id,.int .i64 x] w fun e w'=>e = .returned (.int .i64 ((P.en l).fail id x).2.2)∧DSt w0 w p S w' (P.act l ((P.en l).fail id x)):=by
 have U:l<2:=o▸qeo k
 have H:=qb h
 obtain⟨g,T,u,z⟩:=h
 have D:=fun W (n:qq w W)=>qmc (z.new n) k l o
 have i:=fun W (n:qq w W)=>q2z ((qa H).new n) k l (g l) o id x ((P.en l).fail id x) v t (fun M X=>by
  obtain⟨N,Z,e3,O⟩:=(z.new (n.trans X)).opE R U;exact(za8 _ _ _ id x M N m).mono fun e w' C=>⟨C.1,O _ _ C.2.1 C.2.2⟩)
 generalize P.act l ((P.en l).fail id x)=Y at i ⊢
 generalize ((P.en l).fail id x)=r at i ⊢
 generalize g l=ge at i D
 have V:=qd9
 clear z v t m
 have y:=D w (Upd.refl _ _)
 clear D
 go_enter Tryz.func14,Tryz.ntmps14
 go_wp2_with (with_reducible first|(first|refine' zi (qg ?_) ?_|refine' zj (qg ?_) ?_);rotate_left|refine' zk (qg ?_)|rfl|apply tn|refine' zl ?_)
 refine y.mono ?_
 rintro e J ⟨rfl,q⟩
 have E:qq w J:=q.upd _
 have I:=i J E
 have L:=qb E
 clear y q E i
 go_wp2_with (with_reducible first|(first|refine' zi (qg ?_) ?_|refine' zj (qg ?_) ?_);rotate_left|refine' zk (qg ?_)|rfl|apply tn|refine' zl ?_)
 refine I.mono ?_
 rintro e w3 ⟨rfl,F⟩
 have K:=qb (DSt.after (qa H) (qa L) F)
 clear I F
 go_wp2_with (with_reducible first|(first|refine' zi (qg ?_) ?_|refine' zj (qg ?_) ?_);rotate_left|refine' zk (qg ?_)|rfl|apply tn|refine' zl ?_)
 go_ret
 exact⟨rfl,qa K⟩
set_option maxRecDepth 100000 in
set_option maxHeartbeats 2000000 in
theorem qt5{w0 w:World}{p:Nat}{S:Nat→Prop}{P:Pr}(I:DuD w0 w p S P)(C T:Nat)(id:Int)(y:List Int)(K L M:Nat)(r:Ch × MsgV × Int)
  (N:w.cell? ⟨K,0,none⟩=some (.func (.func 35) #[.pointer (some ⟨T,0,none⟩)] #[])) (O:w.cell? ⟨L,0,none⟩=some (.int .u64 id)) (R:zu w M 0 32=some (qy y).toArray) (hl:y.length=32)
  (z:MsgOk r.2.1)
  (t:∀W,qq w W→Calls Tryz.prog 35 #[.pointer (some ⟨T,0,none⟩),.int .u64 id,.agg (qy y).toArray] W fun e w' =>
   e = .returned (.tuple #[.agg r.2.1.cells.toArray,.int .i64 r.2.2])∧DSt w0 W p S w' (P.set C r.1)) :
  Calls Tryz.prog 56 #[.pointer (some ⟨K,0,none⟩),.pointer (some ⟨L,0,none⟩),.pointer (some ⟨M,0,none⟩)] w fun e w' =>
   e = .returned (.tuple #[.agg r.2.1.cells.toArray,.int .i64 r.2.2])∧DSt w0 w p S w' (P.set C r.1):=by
 have i:=z.len
 have H:=qb I
 have b0:=qbz w MsgV.zero qu
 have l:qq w (w.alloc (.cells MsgV.zero.cells.toArray 71)):=(Upd.refl _ _).alloc _
 have hE:∀args w,(callFunc 35 args).run Tryz.prog w = .ok (.enter 35 args) w:=enters_of Tryz.func35 (by kernel_rfl) rfl
 clear I
 go_enter Tryz.func56,Tryz.ntmps56
 go_upto_region 1 with (with_reducible first|(first|refine' zi (qg ?_) ?_|refine' zj (qg ?_) ?_);rotate_left|refine' zk (qg ?_)|rfl|apply tn|refine' zl ?_)
 generalize w.alloc (.cells MsgV.zero.cells.toArray 71)=w1 at b0 l ⊢
 obtain⟨B,U⟩:∃B,B=w.heap.size:=⟨_,rfl⟩
 rw[←U] at b0 ⊢
 have q:¬S B:=fun e=>by have:=((qa H).lt B e).2;omega
 have a4:=b0.lt
 have a5:w.heap.size≤B:=by omega
 have X:=l.cell N (fun h=>h)
 have Y:=l.cell O (fun h=>h)
 have Z:=qa6 R l (fun h=>h)
 have t:=t w1 l
 have J:=qb l
 have V:=qb b0
 clear U N O R l b0
 go_wp2_with (with_reducible first|(first|refine' zi (qg ?_) ?_|refine' zj (qg ?_) ?_);rotate_left|refine' zk (qg ?_)|rfl|apply tn|refine' zl ?_)
 refine t.mono ?_
 rintro e E ⟨rfl,o⟩
 have v:=(qa V).upd o.2 q
 have stB:=v.stOk i
 have F:=v.put i
 have D:Upd (· = B) E (E.setCells B 0 r.2.1.cells):=qac _
 have a8:=o.2.size
 have g:DSt w0 w p S (E.setCells B 0 r.2.1.cells) (P.set C r.1):=by
  have a6:=(qa H).n.size;have a7:=(qa J).size;refine DSt.fin (qa H) (o.1.upd D (fun b e=> ?_)) ?_ ?_
  ·subst e;refine⟨?_,by omega⟩;rintro (e | e)
   ·exact q e
   ·omega
  ·rintro b (e | e)
   ·exact .inl e
   ·exact .inr (by omega)
  ·refine((qa J).mono (fun _ _ h=>h.elim)).trans ((o.2.mono (fun _ _ h=> .inl h)).trans (D.mono ?_));rintro b hb rfl;exact .inr (by omega)
 have m:=qb g
 have x:=qb F
 clear t o v F D g X Y Z
 go_wp2_with (with_reducible first|(first|refine' zi (qg ?_) ?_|refine' zj (qg ?_) ?_);rotate_left|refine' zk (qg ?_)|rfl|apply tn|refine' zl ?_)
 refine bodyPost_ret (qs rfl _ _ B _ _ _ _ rfl (qa x).at_ Tryz.underlying71 rfl (by rw[List.size_toArray,r.2.1.len i];exact Tryz.infoMsg)) rfl ?_
 exact⟨rfl,qa m⟩
set_option maxRecDepth 100000 in
set_option maxHeartbeats 2000000 in
theorem qt6{w0 w:World}{p:Nat}{S:Nat→Prop}{P:Pr}(h:DuD w0 w p S P)(k:Int)(x v:Nat)(L:sd k=x)(id:Int)(i:List Int)(r:Ch × MsgV × Int)(hl:i.length=32)(l:MsgOk r.2.1)(F:(P.way (1-x)).length<1000000)
  (hO:∀W,qq w W→Calls Tryz.prog 35 #[.pointer (some ⟨v,0,none⟩),.int .u64 id,.agg (qy i).toArray] W fun e w' =>
   e = .returned (.tuple #[.agg r.2.1.cells.toArray,.int .i64 r.2.2])∧DSt w0 W p S w' (P.set x r.1)) :
  Calls Tryz.prog 34 #[.pointer (some ⟨p,0,none⟩),.int .i64 k,.func (.func 35) #[.pointer (some ⟨v,0,none⟩)] #[],.int .u64 id,.agg (qy i).toArray] w fun e w' =>
   e = .returned (.int .i64 r.2.2)∧DSt w0 w p S w' (P.act x r):=by
 have H:=qb h
 have N:(qy i).length=32:=by rw[qa1,hl]
 have g:∀(W:World) (n:qq w W) (o q t:Nat) (C:W.cell? ⟨o,0,none⟩=some (.func (.func 35) #[.pointer (some ⟨v,0,none⟩)] #[])) (D:W.cell? ⟨q,0,none⟩=some (.int .u64 id)) (E:zu W t 0 32=some (qy i).toArray),_:=fun W n o q t C D E=>qlj ((qa H).new n) k x L 56 #[] #[.pointer (some ⟨o,0,none⟩),.pointer (some ⟨q,0,none⟩),.pointer (some ⟨t,0,none⟩)] (enters_of Tryz.func56 (by kernel_rfl) rfl) r l F (fun W' I=>qt5 ((qa H).new (n.trans I)) x v id i o q t r (I.cell C (fun h=>h)) (I.cell D (fun h=>h)) (qa6 E I (fun h=>h)) hl l (fun W2 y=>hO W2 ((n.trans I).trans y)))
 have hM:=ql2 l
 generalize P.act x r=P' at g ⊢
 generalize qox r=M at g hM ⊢
 have m:=qb g
 have a4:=qd9
 clear g l F hO h
 go_enter Tryz.func34,Tryz.ntmps34
 go_upto_region 1 with (with_reducible first|(first|refine' zi (qg ?_) ?_|refine' zj (qg ?_) ?_);rotate_left|refine' zk (qg ?_)|rfl|apply tn|refine' zl ?_)
 have R:qq w (w.alloc (.cells #[.func (.func 35) #[.pointer (some ⟨v,0,none⟩)] #[]] 84)):=(Upd.refl _ _).alloc _
 obtain⟨o,V⟩:=qc8 (W:=w) rfl (.cells #[.func (.func 35) #[.pointer (some ⟨v,0,none⟩)] #[]] 84)
 generalize w.alloc (.cells #[.func (.func 35) #[.pointer (some ⟨v,0,none⟩)] #[]] 84)=w1 at R o V ⊢
 have y:qq w1 (w1.alloc (.cells #[.int .u64 id] 27)):=(Upd.refl _ _).alloc _
 obtain⟨q,X⟩:=qc8 V (.cells #[.int .u64 id] 27)
 generalize w1.alloc (.cells #[.int .u64 id] 27)=T at y q X ⊢
 have J:qq T (T.alloc (.cells (qy i).toArray 33)):=(Upd.refl _ _).alloc _
 obtain⟨t,z3⟩:=qc8 X (.cells (qy i).toArray 33)
 generalize T.alloc (.cells (qy i).toArray 33)=K at J t z3 ⊢
 have C:K.cell? ⟨w.heap.size,0,none⟩=some (.func (.func 35) #[.pointer (some ⟨v,0,none⟩)] #[]):=(y.trans J).cell (qh o 0) (fun h=>h)
 have D:K.cell? ⟨w.heap.size+1,0,none⟩=some (.int .u64 id):=J.cell (qh q 0) (fun h=>h)
 have E:zu K (w.heap.size+1+1) 0 32=some (qy i).toArray:=qag t 32 (by rw[List.size_toArray,N])
 have nw:=(R.trans y).trans J
 have hs:=qa m K nw _ _ _ C D E
 have Z:=qb nw
 clear R y J o q t V X z3 nw m
 generalize w.heap.size=z at *
 go_wp2_with (with_reducible first|(first|refine' zi (qg ?_) ?_|refine' zj (qg ?_) ?_);rotate_left|refine' zk (qg ?_)|rfl|apply tn|refine' zl ?_)
 refine hs.mono ?_
 rintro e U ⟨rfl,h2⟩
 obtain⟨O,hA,nA⟩:=qgs U M hM
 have Y:=qb ((DSt.after (qa H) (qa Z) h2).then (qa H).n.size (qa H).lt nA)
 clear hs h2 hA nA Z C D E
 go_upto_region 2 with (with_reducible first|(first|refine' zi (qg ?_) ?_|refine' zj (qg ?_) ?_);rotate_left|refine' zk (qg ?_)|rfl|apply tn|refine' zl ?_)
 change Code.wp _ _ _ _ (qg8 U M)
 generalize qg8 U M=wB at Y ⊢
 clear O
 go_wp2_with (with_reducible first|(first|refine' zi (qg ?_) ?_|refine' zj (qg ?_) ?_);rotate_left|refine' zk (qg ?_)|rfl|apply tn|refine' zl ?_)
 go_ret
 exact⟨rfl,qa Y⟩
set_option maxRecDepth 100000 in
set_option maxHeartbeats 2000000 in
theorem qn4{w0 w:World}{p:Nat}{S:Nat→Prop}{P:Pr}(hT:Tb w0)(h:DuD w0 w p S P)(k:Int)(m:Nat)(t:sd k=m)(id:Int)(i:List Int)(K:i.length=32)(o:(P.en m).news.length<1000000)(x:MsgOk ((P.en m).fulfill id i).2.1)(v:(P.way (1-m)).length<1000000) :
  Calls Tryz.prog 15 #[.pointer (some ⟨p,0,none⟩),.int .i64 k,.int .u64 id,.agg (qy i).toArray] w fun e w'=>e = .returned (.int .i64 ((P.en m).fulfill id i).2.2)∧DSt w0 w p S w' (P.act m ((P.en m).fulfill id i)):=by
 have hk:m<2:=t▸qeo k
 have H:=qb h
 have L:(qy i).length=32:=by rw[qa1,K]
 obtain⟨g,T,u,I⟩:=h
 have M:=fun W (n:qq w W)=>qmc (I.new n) k m t
 have l:=fun W (n:qq w W)=>qt6 ((qa H).new n) k m (g m) t id i ((P.en m).fulfill id i) K x v (fun W' n'=>by
  obtain⟨e1,e2,e3,e4⟩:=(I.new (n.trans n')).opE hT hk;exact(qz5 _ _ _ id i K W' e1 e3 o).mono fun e w' J=>⟨J.1,e4 _ _ J.2.1 J.2.2⟩)
 generalize P.act m ((P.en m).fulfill id i)=P' at l ⊢
 generalize ((P.en m).fulfill id i)=r at l ⊢
 generalize g m=ge at l M
 have a4:=qd9
 clear I x v o
 go_enter Tryz.func15,Tryz.ntmps15
 go_upto_region 1 with (with_reducible first|(first|refine' zi (qg ?_) ?_|refine' zj (qg ?_) ?_);rotate_left|refine' zk (qg ?_)|rfl|apply tn|refine' zl ?_)
 have C:qq w (w.alloc (.cells (qy i).toArray 33)):=(Upd.refl _ _).alloc _
 have D:(w.alloc (.cells (qy i).toArray 33)).heap[w.heap.size]? = some (.cells (qy i).toArray 33 (0,0)):=qi _ _
 have E:=qag D 32 (by rw[List.size_toArray,L])
 generalize w.alloc (.cells (qy i).toArray 33)=w1 at C D E ⊢
 generalize w.heap.size=z at *
 have F:zu w1.drew z 0 32=some (qy i).toArray:=qa6 E ((Upd.refl (fun _=>False) w1).drew) (fun h=>h)
 have y:=M w1.drew C.drew
 have Y:=qb C
 clear M D E C
 refine qcq (fun w'=>zu w' z 0 32=some (qy i).toArray) [7] (.of [0,1,2,3,4,5,6,7,8,9]) (by kernel_rfl) (by kernel_rfl) F ?_
 simp only[Plan.of]
 go_wp2_with (with_reducible first|(first|refine' qw1 (qg ?_) ?_|refine' qw2 (qg ?_) ?_|refine' qw3 (qg ?_) ?_);rotate_left|refine' qw4 (qg ?_)|refine' qw5 (qg ?_)|rfl|apply qn)
 refine y.mono ?_
 rintro e O ⟨rfl,q⟩
 have R:zu O z 0 32=some (qy i).toArray:=qa6 F (q.upd (fun _=>False)) (fun h=>h)
 have N:qq w O:=((qa Y).drew).trans (q.upd _)
 have V:=l O N
 have Z:=qb N
 clear y q F N l
 go_wp2_with (first | (with_reducible first|(first|refine' qw1 (qg ?_) ?_|refine' qw2 (qg ?_) ?_|refine' qw3 (qg ?_) ?_);rotate_left|refine' qw4 (qg ?_)|refine' qw5 (qg ?_)|rfl|apply qn) | refine⟨R,?_⟩)
 refine V.mono ?_
 rintro e w3 ⟨rfl,U⟩
 have X:=qb (DSt.after (qa H) (qa Z) U)
 clear V U R
 go_wp2_with (with_reducible first|(first|refine' qw1 (qg ?_) ?_|refine' qw2 (qg ?_) ?_|refine' qw3 (qg ?_) ?_);rotate_left|refine' qw4 (qg ?_)|refine' qw5 (qg ?_)|rfl|apply qn)
 go_ret
 exact⟨rfl,qa X⟩
end Go.Proofs.YthnohmjbbeahmaaGreatDoor
namespace Go.Proofs.YthnohmjbbeahmaaGreatDoor
open Go.RowKit
structure CutG(w0 w1 w:World)(p:Nat)(S:Nat→Prop)(F:Nat)(Q:Pr)(g:Nat→Nat):Prop where
 d:DuG w0 w p (Fr S w1 w) Q g
 u:Upd (fun b=>S b∨b=F) w1 w
 f:w.heap[F]? = some (.cells #[.int .i64 0] 29 (0,0))
def qwl(w0 w1:World)(S:Nat→Prop)(F:Nat):Prop:=¬S F∧F<w1.heap.size∧w0.heap.size≤F
section
variable {w0 w1 w w':World}{p F:Nat}{S:Nat→Prop}{P Q Q':Pr}{g g':Nat→Nat}
theorem CutG.out(l:qwl w0 w1 S F):¬Fr S w1 w F:=by
 obtain⟨i,m,o⟩:=l;rintro (e | e)
 ·exact i e
 ·omega
theorem CutG.start(h:DuG w0 w p S Q g)(f:w.heap[F]? = some (.cells #[.int .i64 0] 29 (0,0))):CutG w0 w w p S F Q g :=
 ⟨h.wider (fun _ h=> .inl h) (fun b i=>i.elim (h.lt b) (fun e=>by omega)),Upd.refl _ _,f⟩
theorem CutG.step(l:qwl w0 w1 S F)(c:CutG w0 w1 w p S F Q g)(b:DSG w0 w p (Fr S w1 w) w' Q' g'):CutG w0 w1 w' p S F Q' g':=by
 have t:=c.u.size;have v:=b.2.size;have q:=l.2.2;refine⟨b.1.wider ?_ ?_,?_,b.2.old c.f (CutG.out l)⟩
 ·rintro i ((e | e) | e)
  ·exact .inl e
  ·exact .inr ⟨e.1,by omega⟩
  ·exact .inr ⟨by omega,e.2⟩
 ·rintro i (e | e)
  ·have:=c.d.lt i (.inl e);exact⟨this.1,by omega⟩
  ·have:=b.1.lt;have o:=c.d.n.size;by_cases m:i<w.heap.size
   ·have:=c.d.lt i (.inr ⟨e.1,m⟩);exact⟨this.1,by omega⟩
   ·exact⟨by omega,e.2⟩
 ·refine c.u.fr (b.2.mono ?_);rintro i m (e | e)
  ·exact .inl (.inl e)
  ·exact .inr e
theorem CutG.new(c:CutG w0 w1 w p S F Q g)(n:qq w w'):CutG w0 w1 w' p S F Q g:=by
 have o:=c.u.size;have q:=n.size;have m:=c.d.n.size;refine⟨(c.d.new n).wider (fun b i=>i.imp id (fun e=>⟨e.1,by omega⟩)) ?_,c.u.trans (n.mono (fun _ _ h=>h.elim)),n.old c.f (fun h=>h)⟩;rintro b (e | e)
 ·have:=c.d.lt b (.inl e);exact⟨this.1,by omega⟩
 ·by_cases l:b<w.heap.size
  ·have:=c.d.lt b (.inr ⟨e.1,l⟩);exact⟨this.1,by omega⟩
  ·exact⟨by omega,e.2⟩
theorem CutG.note(l:qwl w0 w1 S F)(c:CutG w0 w1 w p S F Q g):CutG w0 w1 (w.setCell ⟨F,0,none⟩ (.int .i64 0)) p S F Q g:=by
 have i:Upd (· = F) w (w.setCell ⟨F,0,none⟩ (.int .i64 0)):=(Upd.refl _ _).set1 0 _;have q:=c.u.size;have t:=i.size;have d:=c.d.upd i (fun b e=>by subst e;exact⟨CutG.out l,l.2.2⟩);refine⟨d.wider (fun b m=>m.imp id (fun e=>⟨e.1,by omega⟩)) ?_,c.u.trans (i.mono (fun _ _ h=> .inr h)),?_⟩
 ·rintro b (e | e)
  ·exact d.lt b (.inl e)
  ·by_cases o:b<w.heap.size
   ·exact d.lt b (.inr ⟨e.1,o⟩)
   ·have:=d.n.size;have:=c.d.n.size;exact⟨by omega,e.2⟩
 ·have:=qah c.f 0 (.int .i64 0);rw[this];rfl
def Pr.noWays(P:Pr):Pr:= {P with wa:=[],wb:=[]}
theorem DuG.clear(h:DuG w0 w p S P g)(U:Upd (· = p) w w')(q:w'.heap[p]? = some (.cells (duC g (fun _=>qcg)).toArray 80 (0,0))):DSG w0 w p S w' P.noWays g:=by
 obtain⟨T,u,h⟩:=h;have z:=U.size;refine⟨⟨T,fun _=>qcg,q,fun k l=> ?_,fun k l=> ?_,fun k l=> ?_,h.sep,h.pT,fun j k t l b i=>by simp[qcg,Value.ownBlock] at i,fun b i=>by simp[qcg,Value.ownBlock] at i,.inl h.pS,fun k l b i=> .inl (h.tS k l b i),fun k l b i=>by simp[qcg,Value.ownBlock] at i,?_,?_⟩,U.mono (fun b _ e=>by rw[e];exact h.pS)⟩
 ·have e:P.noWays.en k=P.en k:=rfl;rw[e];exact(h.en k l).upd U (fun b i e=>h.pT k l (e▸i))
 ·have e:P.noWays.way k=[]:=by rcases qbk l with rfl | rfl<;>rfl
  rw[e];exact qfk.nil _ _
 ·have e:P.noWays.way k=[]:=by rcases qbk l with rfl | rfl<;>rfl
  rw[e];intro m o;cases o
 ·rintro b (e | e)
  ·exact⟨(h.lt b e).1,by have:=(h.lt b e).2;omega⟩
  ·exact⟨by have:=h.n.size;omega,e.2⟩
 ·exact h.n.then U (fun b i e=>by have:=(h.lt p h.pS).1;omega)
theorem DuG.opE(h:DuG w0 w p S P g)(t:Tb w0){k:Nat}(l:k<2):∃i,ChS w (g k) i (P.en k)∧Apart i∧Tb w∧∀w' c',ChS w' (g k) (Fr i w w') c'→Upd i w w'→DSG w0 w p S w' (P.set k c') g:=by
 obtain⟨T,u,h⟩:=h;exact⟨T k,h.en k l,h.apart t l,t.new h.n,fun w' c' q m=>⟨⟨_,_,h.op l q m⟩,m.mono (fun b _ o=>h.tS k l b o)⟩⟩
theorem zju(q:Tb w0)(H:DuG w0 w p S P g){k:Nat}(t:k<2) :
  Calls Tryz.prog 39 #[.pointer (some ⟨g k,0,none⟩)] w fun e w'=>(∃v rv,e = .returned (.agg #[v,rv]))∧DSG w0 w p S w' (P.set k (P.en k).cut) g:=by
 obtain⟨l,m,x,y,o⟩:=H.opE q t
 exact(zfa _ l _ w m).mono fun e w' i=>⟨i.1,o _ _ i.2.1 i.2.2⟩
theorem q5k(i:Tb w0)(H:DuG w0 w p S P g){k:Nat}(l:k<2) :
  Calls Tryz.prog 40 #[.pointer (some ⟨g k,0,none⟩)] w (qbf (.agg (P.en k).again.cells.toArray) w):=by
 obtain⟨m,⟨q,nv,o,h⟩,-⟩:=H.opE i l
 exact q6q _ _ w h.toR ⟨h.ok.signed.1,by have:=h.ok.signed.2;show (P.en k).k.signed<_;omega⟩ h.ok.heard
theorem zdq(P:Pr)(k:Nat):P.set k (P.en k)=P:=by
 unfold Pr.set Pr.en;by_cases h:k=0<;>simp[h]
theorem za4(C:Tb w0)(H:DuG w0 w p S P g){k:Nat}(E:k<2){m:MsgV}(i:HearOne (P.en k) m)(z:m.kind=9) :
  Calls Tryz.prog 41 #[.pointer (some ⟨g k,0,none⟩),.agg m.cells.toArray] w fun e w'=>∃v,e = .returned (.tuple #[v,.int .i64 0])∧qm6 w' v ((P.en k).hears m).2.1∧DSG w0 w p S w' P g:=by
 obtain⟨o,q,t,x,y⟩:=H.opE C E
 refine(qpf _ o _ m i.ok w q i.inv x t i.kind i.last).mono ?_
 rintro e w' ⟨v,rfl,J,D,K⟩
 rw[i.err]
 refine⟨v,rfl,q6e (fun l I=>(i.says l I).len) J,?_⟩
 have:=y w' _ D K
 rw[qnh _ z,zdq] at this
 exact this
theorem zay(t:Tb w0)(q:qwl w0 w1 S F)(c:CutG w0 w1 w p S F P g){k:Nat}(z:k<2){m:MsgV}{ms:List MsgV}(E:P.way k=m::ms)(i:HearOne (P.en k) m) :
  Calls Tryz.prog 38 #[.pointer (some ⟨p,0,none⟩),.int .i64 (k:Int)] w fun e w'=>∃v,e = .returned (.tuple #[v,.int .i64 0])∧(∃a c,v = .slice a ((P.en k).hears m).2.1.length c)∧∃g',CutG w0 w1 w' p S F (P.took k ((P.en k).hears m).1 ms) g':=by
 refine(qux t c.d.toD (k:Int) k (ql3 z) m ms E ((P.en k).hears m).1 ((P.en k).hears m).2.1 ((P.en k).hears m).2.2 i.says (fun W g o y x D=>qpf g o (P.en k) m i.ok W y i.inv D x i.kind i.last)).mono ?_
 rintro e w' ⟨v,rfl,C,hd⟩
 rw[i.err]
 obtain⟨g',l⟩:=hd.toG
 exact⟨v,rfl,C.shape,g',c.step q l⟩
set_option maxHeartbeats 600000 in
theorem qs8(t:qwl w0 w1 S F)(c:CutG w0 w1 w p S F P g):Calls Tryz.prog 37 #[.int .i64 0,.pointer (some ⟨F,0,none⟩)] w fun e w'=>e = .returned (.tuple #[])∧CutG w0 w1 w' p S F P g∧Upd (· = F) w w'∧∀a u,w.cell? a=some u→w'.cell? a=some u:=by
 have i:w.cell? ⟨F,0,none⟩=some (.int .i64 0):=qh c.f 0;have v:=qw c.f 0;have m:∀a u,w.cell? a=some u→(w.setCell ⟨F,0,none⟩ (.int .i64 0)).cell? a=some u:=by
  intro a u l;by_cases e:(⟨F,0,none⟩:Addr)=a
  ·subst e;rw[World.cell?_setCell_same (h:=i),←l,i]
  ·rw[World.cell?_setCell_other (h:=e)];exact l
 have o:Upd (· = F) w (w.setCell ⟨F,0,none⟩ (.int .i64 0)):=(Upd.refl _ _).set1 0 _;have q:=qb (And.intro (c.note t) (And.intro o m));clear c m o;go_enter Tryz.func37,Tryz.ntmps37;go_wp2_with fail;go_end0;exact⟨rfl,qa q⟩
theorem qm6.keep{v:Value}{ls:List MsgV}(h:qm6 w v ls)(k:∀a u,w.cell? a=some u→w'.cell? a=some u):qm6 w' v ls:=by
 rcases h with h | ⟨i,c,e,h⟩
 ·exact .inl h
 ·exact .inr ⟨i,c,e,fun j u l=>k _ _ (h j u l)⟩
theorem CutG.again{i:World}(l:qwl w0 w1 S F)(c:CutG w0 w1 w p S F Q g)(n:qq w i):qwl w0 i (Fr S w1 w) F∧CutG w0 i i p (Fr S w1 w) F Q g:=by
 have m:=c.u.size;have o:=n.size;exact⟨⟨CutG.out l,by have:=l.2.1;omega,l.2.2⟩,CutG.start (c.d.new n) (n.old c.f (fun h=>h))⟩
theorem CutG.fin2{i o q:World}(t:DuD w0 i p S P)(n:qq i w1)(x:i.heap.size≤F)(c:CutG w0 w1 w p S F Q g)(m:qq w o)(l:CutG w0 o q p (Fr S w1 w) F Q' g'):DSt w0 i p S q Q':=by
 have z:=n.size;have y:=c.u.size;have C:=m.size;refine DSt.fin t l.d.toD ?_ (((n.mono (fun _ _ h=>h.elim)).trans (c.u.mono ?_)).trans ((m.mono (fun _ _ h=>h.elim)).trans (l.u.mono ?_)))
 ·rintro b ((e | e) | e)
  ·exact .inl e
  ·exact .inr (by omega)
  ·exact .inr (by omega)
 ·rintro b v (e | e)
  ·exact .inl e
  ·exact .inr (by omega)
 ·rintro b v ((e | e) | e)
  ·exact .inl e
  ·exact .inr (by omega)
  ·exact .inr (by omega)
theorem CutG.fin{i:World}(m:qwl w0 w1 S F)(l:DuD w0 i p S P)(n:qq i w1)(o:i.heap.size≤F)(c:CutG w0 w1 w p S F Q g):DSt w0 i p S w Q:=by
 have z:=n.size;refine DSt.fin l c.d.toD ?_ ((n.mono (fun _ _ h=>h.elim)).trans (c.u.mono ?_))
 ·rintro b (e | e)
  ·exact .inl e
  ·exact .inr (by omega)
 ·rintro b q (e | e)
  ·exact .inl e
  ·exact .inr (by omega)
end
theorem Tryz.infoMg2:(Tryz.prog.info? 94).map (·.size)=some 76:=by kernel_rfl
def zhn(x v:Value):Sem Unit:=Instr.storeAt 94 x v
theorem q1t(x v:Value):Instr.storeAt 94 x v=zhn x v:=rfl
theorem zja(b o:Nat)(A:Array Value)(w:World):(zhn (.pointer (some ⟨b,o,none⟩)) (.agg A)).run Tryz.prog w=if stOk w b o 76 A=true then .ok () (w.setCells b o A.toList) else qfn Tryz.prog 94 w b o A :=
 qat 94 76 Tryz.infoMg2 b o A w
def mg2(m k:MsgV):List Value:=m.cells++k.cells
def zan(p:Array (Nat × Value)):Sem Value:=Instr.build 94 p
theorem qy9(p:Array (Nat × Value)):Instr.build 94 p=zan p:=rfl
def agM(c i r:Int):MsgV:=⟨9,c,i,0,qaj,0,r⟩
theorem zh8(g l q i o t:Int)(w:World):(zan #[(0,.agg (agM g l q).cells.toArray),(1,.agg (agM i o t).cells.toArray)]).run Tryz.prog w = .ok (.agg (mg2 (agM g l q) (agM i o t)).toArray) w:=run_build w _ _ _ (by kernel_rfl)
def qfg:List Value:=MsgV.zero.cells++MsgV.zero.cells
def zg2:Sem Value:=Instr.alloc 94 true (.tuple #[])
theorem qy3:Instr.alloc 94 true (.tuple #[])=zg2:=rfl
theorem zh3(w:World):zg2.run Tryz.prog w = .ok (.pointer (some ⟨w.heap.size,0,none⟩)) (w.alloc (.cells qfg.toArray 94)):=by kernel_rfl
structure Mg2(w:World)(b:Nat)(m k:MsgV):Prop where
 at_:w.heap[b]? = some (.cells (mg2 m k).toArray 94 (0,0))
 l1:m.hash.length=32
 l2:k.hash.length=32
section
variable {w w':World}{b:Nat}{m k:MsgV}
theorem qxz(g:m.hash.length=32)(i:k.hash.length=32):(mg2 m k).length=76:=by unfold mg2;rw[List.length_append,m.len g,k.len i]
theorem Mg2.upd{S:Nat→Prop}(a:Mg2 w b m k)(u:Upd S w w')(n:¬S b):Mg2 w' b m k:=⟨u.old a.at_ n,a.l1,a.l2⟩
theorem Mg2.row0(a:Mg2 w b m k):zu w b 0 38=some m.cells.toArray:=by
 rw[qbv a.at_ 0 38 (by rw[List.size_toArray,qxz a.l1 a.l2];omega)];congr 1;apply Array.ext';rw[Array.toList_extract];show List.extract (m.cells++k.cells) 0 38=m.cells;rw[List.extract_eq_take_drop,List.drop_zero,List.take_append_of_le_length (by rw[m.len a.l1];exact Nat.le_refl _),List.take_of_length_le (by rw[m.len a.l1];exact Nat.le_refl _)]
theorem Mg2.row1(a:Mg2 w b m k):zu w b 38 38=some k.cells.toArray:=by
 rw[qbv a.at_ 38 38 (by rw[List.size_toArray,qxz a.l1 a.l2];omega)];congr 1;apply Array.ext';rw[Array.toList_extract];show List.extract (m.cells++k.cells) 38 76=k.cells;rw[List.extract_eq_take_drop,List.drop_append_of_le_length (by rw[m.len a.l1];exact Nat.le_refl _),List.drop_of_length_le (by rw[m.len a.l1];exact Nat.le_refl _),List.nil_append,List.take_of_length_le (by rw[k.len a.l2];exact Nat.le_refl _)]
theorem qmn(h:w.heap[b]? = some (.cells qfg.toArray 94 (0,0)))(g:m.hash.length=32)(i:k.hash.length=32) :
  stOk w b 0 76 (mg2 m k).toArray=true∧Mg2 (w.setCells b 0 (mg2 m k)) b m k:=by
 have l:=qxz g i
 refine⟨qfd (C:=qfg.toArray) h (by rw[l];rfl) (fun v hv=>(List.mem_append.1 hv).elim (m.one v) (k.one v)),⟨?_,g,i⟩⟩
 rw[qa4 h 0 _]
 exact congrArg (fun z=>some (Obj.cells z 94 (0,0))) (qc4 qfg.toArray (mg2 m k) (by rw[l];rfl))
end
theorem q5v(a b:Nat):(∀w,(Instr.index 77 (.agg #[.pointer (some ⟨a,0,none⟩),.pointer (some ⟨b,0,none⟩)]) (.int .i64 0)).run Tryz.prog w = .ok (.pointer (some ⟨a,0,none⟩)) w)∧∀w,(Instr.index 77 (.agg #[.pointer (some ⟨a,0,none⟩),.pointer (some ⟨b,0,none⟩)]) (.int .i64 1)).run Tryz.prog w = .ok (.pointer (some ⟨b,0,none⟩)) w:=⟨fun _=>by kernel_rfl,fun _=>by kernel_rfl⟩
def Pr.cutK(P:Pr):Nat→Pr
 | 0=>P
 | k+1=>(P.cutK k).set k ((P.cutK k).en k).cut
noncomputable def Pr.tellK(P:Pr):Nat→Pr
 | 0=>P
 | k+1=>(P.tellK k).sends k (((P.tellK k).en k).hears ((P.tellK k).en (1-k)).again).2.1
theorem q9v(P:Pr):((P.noWays.cutK 2).tellK 2) = {P.told with bad:=P.bad} := by
 obtain⟨a,b,wa,wb,bad⟩:=P;rfl
end Go.Proofs.YthnohmjbbeahmaaGreatDoor
