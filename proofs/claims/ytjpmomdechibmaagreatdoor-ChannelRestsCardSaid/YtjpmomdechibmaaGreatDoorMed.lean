/-
  The protocol, plain: a cut keeps the invariant; how it is at first; lengths; totals.
-/
import Derived.Test.YtjpmomdechibmaaGreatDoorPtQ
import Derived.Test.YtjpmomdechibmaaGreatDoorMdf
set_option linter.unusedVariables false
set_option linter.unusedSimpArgs false
namespace Go.Proofs.YtjpmomdechibmaaGreatDoor
open Go.RowKit
theorem q44(ch i:Int){n:Int}(f:0≤n∧n≤65535):qam ⟨9,ch,i,0,qad,0,n⟩=true:=by
 unfold qam
 show (if (0:Int)<0∨1073741824<(0:Int)∨n<0∨65535<n∨1125899906842624<(0:Int) then false else decide (qhv _ _=qgi 9))=true
 rw[if_neg (by omega)]
 kernel_rfl
section
variable {K:Kon}{n:Nat}{s t:Bool}{c d:Ch}{eo ei es:List En}{G:List Gi}{la nu lb nv:List Nat}{g g':Gi}{j:Nat}
theorem qq4(s:Bool)(c:Ch)(G:List Gi)(l:List Nat)(e:List En):msE s c G (l.map En.upd++e)=msU s c G l++msE s c G e:=by
 unfold msE msU
 rw[List.map_append,List.map_map]
 rfl
theorem qtp{c':Ch}{G':List Gi}{w:Nat}(o:w≤4)(f:qas w=true→c'.last=msU s c' G' la++[c'.sgnOf])(l:w=3→c'.k.revoked=true)(m:w=4→c'.k.revoked=false):c'.resaid (qas w) (qbq w)=msE s c' G' (qhy w la c'.k.shutSaid):=by
 have i:(if c'.k.shutSaid then [qbx c'.s.ch] else [])=msE s c' G' (if c'.k.shutSaid=true then [.shut] else []):=by
  cases c'.k.shutSaid<;>rfl
 unfold Ch.resaid
 rw[i]
 rcases qpm o with rfl | rfl | rfl | rfl | rfl
 ·rw[quq];rfl
 ·rw[qur,qq4]
  show []++(c'.last++([]++msE s c' G' _))=_
  rw[f rfl,List.nil_append,List.nil_append,List.append_assoc]
  rfl
 ·rw[qus]
  show (if (true && !c'.k.revoked)=true then [c'.revocation] else [])++([]++((if (true&&c'.k.revoked)=true then [c'.revocation] else [])++msE s c' G' _))=c'.revocation::msE s c' G' _
  cases c'.k.revoked<;>rfl
 ·rw[qut,qq4]
  show (if (true && !c'.k.revoked)=true then [c'.revocation] else [])++(c'.last++((if (true&&c'.k.revoked)=true then [c'.revocation] else [])++msE s c' G' _))=_
  rw[f rfl,l rfl,List.append_assoc]
  rfl
 ·rw[quu]
  show (if (true && !c'.k.revoked)=true then [c'.revocation] else [])++(c'.last++((if (true&&c'.k.revoked)=true then [c'.revocation] else [])++msE s c' G' _))=c'.revocation::msE s c' G' (la.map En.upd++_)
  rw[f rfl,m rfl,qq4,List.append_assoc]
  rfl
theorem qv8{c' l:Ch}{m wi:Nat}(H:c'.s.ch=l.s.ch)(q:qas wi=true→qbq m=false)(sig:c'.k.signed=l.k.heard+if qas m=true then 1 else 0)(f:l.k.signed=c'.k.heard+if qas wi=true then 1 else 0)(aw:qas m=true→c'.k.awaits=true)(i:l.k.awaits=(qas wi || qbq m))(D:l.k.awaits=true→1≤l.k.signed)(I:0≤c'.k.heard∧c'.k.heard≤65535) :
  c'.hearAgain l.again=(c'.resaid (qas m) (qbq m),0):=by
 have y:l.again.id=c'.k.heard-if qbq m=true then 1 else 0:=by
  show IntKind.u64.wrap l.k.told=_
  have:l.k.told=c'.k.heard-if qbq m=true then 1 else 0:=by
   unfold CountsV.told
   cases v:qas wi with
   | true =>
    rw[v] at i f
    rw[q v]
    rw[show l.k.awaits=true by rw[i];rfl]
    simp at f ⊢
    omega
   | false =>
    rw[v] at i f
    cases o:qbq m with
    | true =>
     rw[show l.k.awaits=true by rw[i,o];rfl]
     simp at f ⊢
     omega
    | false =>
     rw[show l.k.awaits=false by rw[i,o];rfl]
     simp at f ⊢
     omega
  rw[this]
  have E:0≤c'.k.heard-(if qbq m=true then 1 else 0):=by
   cases o:qbq m with
   | false=>simp;omega
   | true =>
    have w:qas wi=false:=by
     cases e:qas wi with
     | false=>rfl
     | true=>rw[q e] at o;cases o
    rw[w] at f i
    have:=D (by rw[i,o];rfl)
    simp at f ⊢
    omega
  refine qeg E ?_
  split<;>omega
 have C:qk1 c' l.again=qbq m:=by
  unfold qk1
  rw[y]
  cases o:qbq m with
  | false=>simp;omega
  | true =>
   have w:qas wi=false:=by
    cases e:qas wi with
    | false=>rfl
    | true=>rw[q e] at o;cases o
   rw[w] at f i
   have:=D (by rw[i,o];rfl)
   simp at f ⊢
   omega
 have z:qf9 c' l.again=qas m:=by
  unfold qf9
  show (c'.k.awaits&&decide (l.k.heard+1=c'.k.signed))=_
  cases v:qas m with
  | true=>rw[v] at sig;rw[aw v];simp at sig ⊢;omega
  | false=>rw[v] at sig;simp at sig ⊢;intro _;omega
 have F:qeq c' l.again=0:=by
  unfold qeq
  rw[z,C]
  rw[if_neg,if_neg]
  ·rintro ⟨o,x⟩
   apply x
   rw[y,o]
   simp
  ·rintro ⟨v,x⟩
   apply x
   rw[v] at sig
   show l.k.heard+1=c'.k.signed+1
   simp at sig
   omega
 unfold Ch.hearAgain
 rw[if_pos F,z,C]
theorem q69{P:Pt}(o:K.Ok)(h:Inv K n P)(hn:n<1000000000) :
  ∃m,m.s=P.s∧m.c=P.c.cut∧m.d=P.d.cut∧Inv K n m∧P.c.cut.hearAgain P.d.cut.again=(m.out,0)∧P.d.cut.hearAgain P.c.cut.again=(m.inn,0):=by
 obtain⟨s,c,d,eo,ei,G,la,nu,lb,nv⟩:=P
 obtain⟨ea,eb,ab,ba,it,ok,pw,few⟩:=h
 simp only at ea eb ab ba it ok pw few ⊢
 have I:=qka ok
 have R:=qft it
 let code:Bool→Nat:=fun t=>if t=s then qk eo else qk ei
 have N:code s=qk eo:=if_pos rfl
 have M:code (!s)=qk ei:=if_neg (by cases s<;>decide)
 have x:∀g∈G,g.it (!s) (qk ei) (qk eo)∈qav:=fun g q=>by rw[q2r];exact it g q
 obtain⟨f,ra,a4⟩:=ea.cut (code:=code) o it I (by omega)
 obtain⟨i,rb,a5⟩:=eb.cut (code:=code) o x I (by omega)
 obtain⟨k1,k2,k3,k4,X,Y,Z,k8,k9,C⟩:=qkf c
 obtain⟨j1,j2,j3,j4,U,V,W,j8,j9,z⟩:=qkf d
 have w4:=qgb eo ab.w9
 have v4:=qgb ei ba.w9
 obtain⟨w1,-⟩:=qpn w4 la c.k.shutSaid
 obtain⟨v1,-⟩:=qpn v4 lb d.k.shutSaid
 have q1:=(qgx (code:=code) it s).1
 have q2:=(qgx (code:=code) it (!s)).1
 have q3:=(qgx (code:=code) it s).2.2.1
 have q4:=(qgx (code:=code) it (!s)).2.2.1
 have fa:=f.nOwn
 rw[q1] at fa
 have fb:=i.nOwn
 rw[q2] at fb
 have ga:=f.nTh
 rw[q4] at ga
 have gb:=i.nTh
 rw[Bool.not_not,q3] at gb
 have v:=ab.cut (code:=code) (lb:=lb) it I N ba.w9 fa gb a5 i.pos.2 eb.pos.2
 have w:=ba.cut (code:=code) (lb:=la) x I M ab.w9 fb ga (by rw[Bool.not_not];exact a4) f.pos.2 ea.pos.2
 refine⟨⟨s,c.cut,d.cut,qhy (qk eo) la c.k.shutSaid,qhy (qk ei) lb d.k.shutSaid,G.map (qcn code),la,[],lb,[]⟩,rfl,rfl,rfl,⟨f,i,v,w,?_,?_,?_,?_⟩,?_,?_⟩
 ·intro y T
  show y.it s (qk (qhy (qk eo) la c.k.shutSaid)) (qk (qhy (qk ei) lb d.k.shutSaid))∈qav
  rw[w1,v1]
  obtain⟨g,q,rfl⟩:=List.mem_map.1 T
  have hi:=q5m _ (it g q)
  have e:(qcn code g).it s (qk eo) (qk ei)=It.cut (g.it s (qk eo) (qk ei)):=by
   unfold Gi.it It.cut zfi qcn
   simp only
   by_cases F:zj g.so=1∧zj g.st = -1
   ·simp only[if_pos F]
   ·simp only[if_neg F]
    by_cases H:zj g.so=4∧zj g.st=6
    ·simp only[if_pos H]
    ·simp only[if_neg H]
  rw[e]
  exact hi
 ·intro y T
  obtain⟨g,q,rfl⟩:=List.mem_map.1 T
  have l:=ok g q
  refine⟨l.id,l.amount,l.hash,l.expiry,fun e=>l.um ?_⟩
  have e:zj g.st=5∨zj g.st=6:=e
  have hc:=qco (R g q).2.1
  rcases e with e | e
  ·exact absurd e hc.2.2.2.2.1
  ·have h6:=hc.2.2.2.2.2.2.1
   rw[e] at h6
   exact .inr (by simpa using h6.symm)
 ·show ((G.map (qcn code)).map Gi.pk).Pairwise Apt
  rw[List.map_map,List.pairwise_map]
  rw[List.pairwise_map] at pw
  refine List.Pairwise.imp_of_mem ?_ pw
  rintro a b ha hb O ⟨D,E,z3,z4⟩
  have D:decide (0≤zj a.so)=true:=D
  have E:decide (0≤zj b.so)=true:=E
  rw[(qco (R a ha).1).2.1] at D
  rw[(qco (R b hb).1).2.1] at E
  have D:1≤a.so:=by simpa using D
  have E:1≤b.so:=by simpa using E
  exact O ⟨decide_eq_true (show 0≤a.so by omega),decide_eq_true (show 0≤b.so by omega),z3,z4⟩
 ·show (G.map (qcn code)).length≤n
  rw[List.length_map]
  exact few
 ·have J:c.cut.hearAgain d.cut.again=(c.cut.resaid (qas (qk eo)) (qbq (qk eo)),0):=by
   refine qv8 (wi:=qk ei) (by rw[f.set,i.set,o.ch,o.ch]) ba.xor (by rw[X,V];exact ab.sig) (by rw[U,Y];exact ba.sig) (fun e=>by rw[Z,ab.aw,e];rfl) (by rw[W];exact ba.aw) (by rw[W,U];exact eb.nums.2.2) ?_
   rw[Y]
   have F:=ea.nums.1
   have H:=eb.nums.2.1
   have L:=ba.sig
   split at L<;>omega
  rw[J]
  congr 1
  show _=msE s c.cut (G.map (qcn code)) (qhy (qk eo) la c.k.shutSaid)
  rw[←k8]
  exact qtp w4 (fun e=>(v.laS (by rw[w1];exact e)).2.2) (fun e=>by rw[C];exact ab.rv3 e) (fun e=>by rw[C];exact ab.rv4 e)
 ·have J:d.cut.hearAgain c.cut.again=(d.cut.resaid (qas (qk ei)) (qbq (qk ei)),0):=by
   refine qv8 (wi:=qk eo) (by rw[f.set,i.set,o.ch,o.ch]) ab.xor (by rw[U,Y];exact ba.sig) (by rw[X,V];exact ab.sig) (fun e=>by rw[W,ba.aw,e];rfl) (by rw[Z];exact ab.aw) (by rw[Z,X];exact ea.nums.2.2) ?_
   rw[V]
   have F:=eb.nums.1
   have H:=ea.nums.2.1
   have L:=ab.sig
   split at L<;>omega
  rw[J]
  congr 1
  show _=msE (!s) d.cut (G.map (qcn code)) (qhy (qk ei) lb d.k.shutSaid)
  rw[←j8]
  exact qtp v4 (fun e=>(w.laS (by rw[v1];exact e)).2.2) (fun e=>by rw[z];exact ba.rv3 e) (fun e=>by rw[z];exact ba.rv4 e)
theorem zbn(i:K.Ok)(s:Bool):Inv K 0 ⟨s,Ch.new (K.S s),Ch.new (K.S (!s)),[],[],[],[],[],[],[]⟩:=by
 have m:∀t,EndI K t (Ch.new (K.S t)) [] []:=by
  intro t
  have o:=i.ours t
  have q:=i.ours (!t)
  have v:=i.sum t
  have w:=i.capS t
  refine⟨rfl,List.Perm.refl _,?_,?_,⟨o,?_⟩,rfl,rfl,fun g f=>(by cases f),Idx.none fun g f=>(by cases f),rfl,rfl,(by show (0:Int)≤8;decide),q58 _,⟨by show (0:Int)≤0;decide,⟨by show (0:Int)≤0;decide,by show (0:Int)≤65535;decide⟩,fun e=>by cases e⟩⟩
  ·show (K.S t).ours=(K.S t).ours+0;omega
  ·show (K.S t).cap-(K.S t).ours=(K.S (!t)).ours+0;omega
  ·show 0≤(K.S t).cap-(K.S t).ours;omega
 have l:∀t,Dir 0 t (Ch.new (K.S t)) (Ch.new (K.S (!t))) [] [] [] []:=by
  intro t
  exact⟨by decide,(fun e=>by cases e),rfl,rfl,(fun e=>by cases e),(fun e=>by cases e),Idx.none fun g f=>(by cases f),trivial,rfl,(fun e=>by cases e),Nat.le_refl _,rfl,(fun e=>by cases e),(fun e=>by cases e)⟩
 refine⟨m s,m (!s),l s,?_,fun g f=>(by cases f),fun g f=>(by cases f),List.Pairwise.nil,Nat.le_refl _⟩
 have:=l (!s)
 rw[Bool.not_not] at this
 exact this
end
section
variable {K:Kon}{n:Nat}{s:Bool}{c d:Ch}{eo ei es:List En}{G:List Gi}{la nu lb nv:List Nat}
theorem qev:∀ {e:List En} {h said:Bool},qk e≠9→qbe G s said h e→e.length≤(ups e).length+(if qas (qk e)=true then 1 else 0)+(if qbq (qk e)=true then 1 else 0)+(if h=true then 0 else 1)
 | [],_,_,_,_=>Nat.zero_le _
 | .upd j::es,h,said,q,g=>by
  have f:=qev (e:=es) q g.2
  have t:qk (.upd j::es)=qk es:=rfl
  have i:(ups (.upd j::es)).length=(ups es).length+1:=rfl
  rw[t,i,List.length_cons]
  omega
 | .shut::es,h,said,q,g=>by
  have f:=qev (e:=es) q g.2
  have t:qk (.shut::es)=qk es:=rfl
  have i:(ups (.shut::es)).length=(ups es).length:=rfl
  rw[t,i,List.length_cons,g.1]
  simp only[if_true,Bool.false_eq_true,if_false] at f ⊢
  omega
 | .sgn::es,h,said,q,g=>by
  have i:(ups (.sgn::es)).length=(ups es).length:=rfl
  rcases qgo q with ⟨l,o⟩ | ⟨l,o⟩
  ·have f:=qev (e:=es) (by omega) (show qbe G s said h es from g)
   rw[l] at f
   rw[o,i,List.length_cons]
   simp only[show qas 0=false from rfl,show qbq 0=false from rfl,show qas 1=true from rfl,show qbq 1=false from rfl,if_true,Bool.false_eq_true,if_false] at f ⊢
   omega
  ·have f:=qev (e:=es) (by omega) (show qbe G s said h es from g)
   rw[l] at f
   rw[o,i,List.length_cons]
   simp only[show qas 2=false from rfl,show qbq 2=true from rfl,show qas 3=true from rfl,show qbq 3=true from rfl,if_true,Bool.false_eq_true,if_false] at f ⊢
   omega
 | .rev::es,h,said,q,g=>by
  have i:(ups (.rev::es)).length=(ups es).length:=rfl
  rcases qgn q with ⟨l,o⟩ | ⟨l,o⟩
  ·have f:=qev (e:=es) (by omega) (show qbe G s said h es from g)
   rw[l] at f
   rw[o,i,List.length_cons]
   simp only[show qas 0=false from rfl,show qbq 0=false from rfl,show qas 2=false from rfl,show qbq 2=true from rfl,if_true,Bool.false_eq_true,if_false] at f ⊢
   omega
  ·have f:=qev (e:=es) (by omega) (show qbe G s said h es from g)
   rw[l] at f
   rw[o,i,List.length_cons]
   simp only[show qas 1=true from rfl,show qbq 1=false from rfl,show qas 4=true from rfl,show qbq 4=true from rfl,if_true,Bool.false_eq_true,if_false] at f ⊢
   omega
theorem qxt{P:Pt}(l:K.Ok)(h:Inv K n P):∀m∈P.inn,Said K.ch m:=by
 obtain⟨s,c,d,eo,ei,G,la,nu,lb,nv⟩:=P
 obtain⟨ea,eb,ab,ba,it,ok,pw,few⟩:=h
 simp only at ea eb ab ba it ok pw few
 intro m E
 obtain⟨x,C,rfl⟩:=List.mem_map.1 (show m∈ei.map (enM (!s) d G) from E)
 have f:d.s.ch=K.ch:=by rw[eb.set,l.ch]
 cases x with
 | sgn=>exact qyr l.chb f eb.nums.2.1
 | shut =>
  show Said K.ch (qbx d.s.ch)
  rw[f]
  exact qtq l.chb
 | rev =>
  have q:=qmo ei ba.w9 C
  have D:qas (qk eo)=false:=by
   cases e:qas (qk eo) with
   | false=>rfl
   | true=>rw[ab.xor e] at q;cases q
  have y:=ab.sig
  have o:=ab.aw
  rw[D] at y o
  rw[q] at o
  have H:=ea.nums.2.2 o
  have I:=ea.nums.2.1
  simp only[Bool.false_eq_true,if_false] at y
  exact(qrh l.chb f ⟨by omega,by omega⟩ (by rw[eb.set];exact l.seed _)).2
 | upd j =>
  obtain⟨g,z,w⟩:=(ba.upd.iff j).1 (qk8 ei C)
  have i:=List.mem_of_getElem? z
  rw[qjd z,f]
  unfold qo6
  by_cases t:g.own = !s
  ·rw[if_pos t]
   exact qyp l.chb (ok g i)
  ·rw[if_neg t]
   have v:g.own=s:=(za g.own s).resolve_right t
   have F:g.up=2:=by
    unfold Gi.pend at w
    rw[v,Bool.not_not] at w
    simpa using w
   exact qyq l.chb (ok g i) ((ok g i).um ((qjp _ (it g i)).2.2 F))
theorem qyb{P:Pt}(f:K.Ok)(h:Inv K n P):∀m∈P.out,Said K.ch m:=by
 have e:P.flip.inn=P.out:=by
  show msE (!(!P.s)) P.c P.G P.eo=msE P.s P.c P.G P.eo
  rw[Bool.not_not]
 have:=qxt f h.flip
 rwa [e] at this
theorem q9a{P:Pt}(h:Inv K n P):P.out.length≤n+3:=by
 have f:=qev h.ab.w9 h.ab.shut
 have g:=h.ab.upd.len
 have i:=h.few
 unfold Pt.out msE
 rw[List.length_map]
 repeat' split at f
 all_goals omega
theorem q8b{P:Pt}(h:Inv K n P):P.inn.length≤n+3:=by
 have f:=qev h.ba.w9 h.ba.shut
 have g:=h.ba.upd.len
 have i:=h.few
 unfold Pt.inn msE
 rw[List.length_map]
 repeat' split at f
 all_goals omega
theorem qkq{K:Kon}{f:Pt}{w:List MsgV}{m:MsgV}(g:K.Ok)(h:Inv K n f)(e:f.out=w++[m]):Said K.ch m :=
 qyb g h m (by rw[e];exact List.mem_append_right _ (List.mem_singleton.2 rfl))
end
theorem q8p(xs:List Live):xs.length=qc8 true xs+qc8 false xs:=by
 unfold qc8
 induction xs with
 | nil=>rfl
 | cons x xs g =>
  rw[List.length_cons,List.filter_cons,List.filter_cons]
  cases f:x.own
  ·rw[if_neg (by decide),if_pos (by decide),List.length_cons];omega
  ·rw[if_pos (by decide),if_neg (by decide),List.length_cons];omega
theorem qqz{K:Kon}{n:Nat}{P:Pt}(h:Inv K n P):P.c.xs.length≤16:=by
 have l:=qq0 h.ea.perm
 have o:=h.ea.many
 have q:=h.eb.many
 have t:=q8p P.c.xs
 have v:cnt (qha P.s) P.G≤cnt (qbi (!P.s)) P.G:=qls fun g i f=>by
  unfold qha at f
  simp only[Bool.and_eq_true,beq_iff_eq,decide_eq_true_eq] at f
  have:=qkt _ (h.it g i) f.2.1 f.2.2
  unfold qbi
  simp only[Bool.and_eq_true,beq_iff_eq,decide_eq_true_eq]
  exact⟨f.1,this⟩
 omega
def qb2(K:Kon)(n:Nat)(s:Bool)(a b:Ch)(wa wb:List MsgV):Prop:=∃Q:Pt,Inv K n Q∧Q.s=s∧Q.c=a∧Q.d=b∧Q.out=wb∧Q.inn=wa
structure EndOk(K:Kon)(n:Nat)(s:Bool)(c:Ch):Prop where
 set:c.s=K.S s
 news:c.news.length≤n
 xs:c.xs.length≤n
 last:c.last.length≤n
 inv:c.Inv
 total:c.total=K.cap
section
variable {K:Kon}{n m:Nat}{s:Bool}{a b:Ch}{wa wb:List MsgV}
theorem qb2.mono(h:qb2 K n s a b wa wb)(f:n≤m):qb2 K m s a b wa wb:=by
 obtain⟨Q,h,e⟩:=h
 exact⟨Q,h.mono f,e⟩
theorem qb2.flip(h:qb2 K n s a b wa wb):qb2 K n (!s) b a wb wa:=by
 obtain⟨Q,h,rfl,rfl,rfl,rfl,rfl⟩:=h
 refine⟨Q.flip,h.flip,rfl,rfl,rfl,rfl,?_⟩
 show msE (!(!Q.s)) Q.c Q.G Q.eo=msE Q.s Q.c Q.G Q.eo
 rw[Bool.not_not]
theorem qb2.of{Q f:Pt}{c':Ch}{g wi:List MsgV}(h:Goes K n Q c' g wi f):qb2 K n Q.s c' Q.d wi g:=⟨f,h.inv,h.s,h.c,h.d,h.out,h.inn⟩
theorem qb2.said(f:K.Ok)(h:qb2 K n s a b wa wb):(∀m∈wa,Said K.ch m)∧(∀m∈wb,Said K.ch m):=by
 obtain⟨Q,h,rfl,rfl,rfl,rfl,rfl⟩:=h
 exact⟨qxt f h,qyb f h⟩
theorem qb2.long(h:qb2 K n s a b wa wb):wa.length≤n+3∧wb.length≤n+3:=by
 obtain⟨Q,h,rfl,rfl,rfl,rfl,rfl⟩:=h
 exact⟨q8b h,q9a h⟩
theorem qb2.endA(f:K.Ok)(x:n<1000000)(h:qb2 K n s a b wa wb):EndOk K n s a:=by
 obtain⟨Q,h,rfl,rfl,rfl,rfl,rfl⟩:=h
 have y:=qka h.ok
 have o:Q.c.xs.length≤n:=by
  rw[h.ea.perm.length_eq]
  exact Nat.le_trans (List.length_filterMap_le _ _) h.few
 have q:=f.ours Q.s
 have t:=f.ours (!Q.s)
 have g:=f.sum Q.s
 have v:=f.cap
 have i:=h.ba.sig
 have w:=h.eb.nums.2.1
 refine⟨h.ea.set,?_,o,h.ab.last,⟨fun p l=>(h.ea.shelf p l).1,?_,?_,?_,qqz h⟩,?_⟩
 ·rw[h.ea.news]
  unfold msU
  rw[List.length_map]
  exact Nat.le_trans h.ea.nuS.len h.few
 ·have:=f.keyb (!Q.s)
  rw[f.key,Bool.not_not] at this
  rw[h.ea.set]
  omega
 ·rw[h.ea.set,f.ch]
  exact f.chb
 ·split at i<;>omega
 ·rw[q14 (qs Q.s) Q.G h.ea.perm h.ea.loc h.ea.rem (qep h.it Q.s) ⟨by omega,by omega⟩,g]
theorem qb2.endB(f:K.Ok)(g:n<1000000)(h:qb2 K n s a b wa wb):EndOk K n (!s) b:=h.flip.endA f g
theorem qb2.new(f:K.Ok)(s:Bool):qb2 K 0 s (Ch.new (K.S s)) (Ch.new (K.S (!s))) [] []:=⟨_,zbn f s,rfl,rfl,rfl,rfl,rfl⟩
theorem qb2.offer(l:K.Ok)(h:qb2 K n s a b wa wb)(t:n<1000000000){N ex:Int}{f:Vector Int 32}(o:0≤N)(q:qa6 f.toList):qb2 K (n+1) s (a.offer N f ex).1 b wa (qed wb (a.offer N f ex).2.1 (a.offer N f ex).2.2)∧MsgOk (a.offer N f ex).2.1:=by
 by_cases i:qbg a N ex=0
 ·obtain⟨Q,h,rfl,rfl,rfl,rfl,rfl⟩:=h
  obtain⟨v,g⟩:=q03 l h t o q i
  have e:(Q.c.offer N f ex).2.2=0:=by unfold Ch.offer;rw[if_pos i]
  unfold qed
  rw[if_pos e]
  exact⟨.of g,(qkq l g.inv g.out).ok⟩
 ·have e:a.offer N f ex=(a,MsgV.zero,qbg a N ex):=by unfold Ch.offer;rw[if_neg i]
  rw[e]
  unfold qed
  rw[if_neg i]
  exact⟨h.mono (Nat.le_succ n),qhc⟩
theorem qb2.sign(i:K.Ok)(h:qb2 K n s a b wa wb):qb2 K (n+1) s a.sign.1 b wa (qed wb a.sign.2.1 a.sign.2.2)∧MsgOk a.sign.2.1:=by
 by_cases f:qbo a=0
 ·obtain⟨Q,h,rfl,rfl,rfl,rfl,rfl⟩:=h
  obtain⟨l,g⟩:=q5z i h f
  have e:Q.c.sign.2.2=0:=by unfold Ch.sign;rw[if_pos f]
  unfold qed
  rw[if_pos e]
  exact⟨.of g,(qkq i g.inv g.out).ok⟩
 ·have e:=qrl rfl f
  rw[e]
  unfold qed
  rw[if_neg f]
  exact⟨h.mono (Nat.le_succ n),qhc⟩
theorem qb2.shut(i:K.Ok)(h:qb2 K n s a b wa wb):qb2 K (n+1) s a.shut.1 b wa (qed wb a.shut.2.1 a.shut.2.2)∧MsgOk a.shut.2.1:=by
 cases f:a.k.shutSaid with
 | false =>
  obtain⟨Q,h,rfl,rfl,rfl,rfl,rfl⟩:=h
  obtain⟨l,g⟩:=q5w h f
  have e:Q.c.shut.2.2=0:=by unfold Ch.shut;rw[f];rfl
  unfold qed
  rw[if_pos e]
  exact⟨(qb2.of g).mono (Nat.le_succ n),(qkq i g.inv g.out).ok⟩
 | true =>
  have e:a.shut=(a,MsgV.zero,4):=by unfold Ch.shut;rw[f];rfl
  rw[e]
  exact⟨h.mono (Nat.le_succ n),qhc⟩
theorem qb2.fail(o:K.Ok)(h:qb2 K n s a b wa wb)(id r:Int):qb2 K (n+1) s (a.fail id r).1 b wa (qed wb (a.fail id r).2.1 (a.fail id r).2.2)∧MsgOk (a.fail id r).2.1:=by
 cases f:qb7 false id a.xs with
 | none =>
  rw[qsr f]
  exact⟨h.mono (Nat.le_succ n),qhc⟩
 | some p =>
  obtain⟨i,x⟩:=p
  by_cases q:r<0∨65535<r
  ·rw[qwy f q]
   exact⟨h.mono (Nat.le_succ n),qhc⟩
  ·have e:a.fail id r=((a.removed i x false).say (qcq id r),(qcq id r).on a.s.ch,0):=by unfold Ch.fail;rw[f];simp only;rw[if_neg q]
   obtain⟨Q,h,rfl,rfl,rfl,rfl,rfl⟩:=h
   have l:=(qey f)
   obtain⟨y,g⟩:=qoo o h f (paid:=false) (m:=qcq id r) (by
    intro g t v w
    exact .inr ⟨r,by rw[w,t,l.2.2.1],by omega,by omega,v⟩)
   rw[e]
   exact⟨(qb2.of g).mono (Nat.le_succ n),(qkq o g.inv g.out).ok⟩
theorem qb2.fulfill(v:K.Ok)(h:qb2 K n s a b wa wb)(id:Int)(p:List Int)(y:p.length=32)(z:qa6 p):qb2 K (n+1) s (a.fulfill id p).1 b wa (qed wb (a.fulfill id p).2.1 (a.fulfill id p).2.2)∧MsgOk (a.fulfill id p).2.1:=by
 cases f:qb7 false id a.xs with
 | none =>
  rw[qxa f]
  exact⟨h.mono (Nat.le_succ n),qhc⟩
 | some q =>
  obtain⟨i,x⟩:=q
  rw[qxb f]
  by_cases t:qg7 p x.h.hash.toList=true
  ·rw[if_pos t]
   obtain⟨Q,h,rfl,rfl,rfl,rfl,rfl⟩:=h
   have l:=(qey f)
   obtain⟨D,g⟩:=qoo v h f (paid:=true) (m:=qfp id p) (by
    intro g w o C
    exact .inl ⟨p,by rw[C,w,l.2.2.1],y,z,by rw[w];exact t,o⟩)
   exact⟨(qb2.of g).mono (Nat.le_succ n),(qkq v g.inv g.out).ok⟩
  ·rw[if_neg t]
   exact⟨h.mono (Nat.le_succ n),qhc⟩
theorem qb2.hears{x:MsgV}(t:K.Ok)(v:n<1000000000)(h:qb2 K n s a b (x::wa) wb):Said K.ch x∧(a.hears x).2.2=0∧qb2 K n s (a.hears x).1 b wa (wb++(a.hears x).2.1)∧(∀l∈(a.hears x).2.1,MsgOk l)∧(a.hears x).2.1.length≤1:=by
 obtain⟨Q,h,rfl,rfl,rfl,rfl,e⟩:=h
 cases i:Q.ei with
 | nil =>
  have:Q.inn=[]:=by unfold Pt.inn;rw[i];rfl
  rw[this] at e
  cases e
 | cons y es =>
  have o:Q.inn=enM (!Q.s) Q.d Q.G y::msE (!Q.s) Q.d Q.G es:=by unfold Pt.inn;rw[i];rfl
  rw[o] at e
  injection e with e1 e2
  have f:=q4q t h v i
  rw[e1,e2] at f
  have q:Q.c.hears x=Q.c.hear x:=by
   unfold Ch.hears
   rw[if_neg]
   have:=f.said.kind
   omega
  rw[q]
  obtain⟨w,g⟩:=f.goes
  exact⟨f.said,f.ok,.of g,f.says,f.few⟩
theorem qb2.cut(v:K.Ok)(w:n<1000000000)(h:qb2 K n s a b wa wb):qb2 K n s a.cut b.cut (b.cut.hearAgain a.cut.again).1 (a.cut.hearAgain b.cut.again).1∧(a.cut.hearAgain b.cut.again).2=0∧(b.cut.hearAgain a.cut.again).2=0:=by
 obtain⟨Q,h,rfl,rfl,rfl,rfl,rfl⟩:=h
 obtain⟨f,g,i,l,o,q,t⟩:=q69 v h w
 rw[q,t]
 exact⟨⟨f,o,g,i,l,rfl,rfl⟩,rfl,rfl⟩
end
structure ActV where
 kind:Int
 side:Int
 expiry:Int
 n:Int
 id:Int
 p:Int
 rest:List Value
def ActV.cells(x:ActV):List Value:= .int .i64 x.kind :: .int .i64 x.side :: .int .i64 x.expiry :: .int .u64 x.n :: .int .u64 x.id :: .int .u8 x.p::x.rest
structure ActV.Ok(x:ActV):Prop where
 kind : -9223372036854775808≤x.kind∧x.kind≤9223372036854775807
 side : -9223372036854775808≤x.side∧x.side≤9223372036854775807
 expiry : -9223372036854775808≤x.expiry∧x.expiry≤9223372036854775807
 n:0≤x.n∧x.n<18446744073709551616
 id:0≤x.id∧x.id<18446744073709551616
 p:0≤x.p∧x.p≤255
 rest:x.rest.length=38
def ActV.k(x:ActV):Nat:=(x.side%2).toNat
theorem ActV.k_lt(x:ActV):x.k<2:=by unfold ActV.k;omega
def Pr.act(P:Pr)(k:Nat)(r:Ch × MsgV × Int):Pr:=(P.set k r.1).say k r.2.1 r.2.2
def Pr.cuts(P:Pr):Pr:=⟨P.a.cut,P.b.cut,[P.b.cut.again],[P.a.cut.again],P.bad⟩
noncomputable def Pr.does(P:Pr)(x:ActV):Pr :=
 if x.kind=0∨x.kind=1 then P.act x.k ((P.en x.k).offer x.n (qic (ofI (qfw x.p))) x.expiry)
 else if x.kind=2 then P.act x.k ((P.en x.k).fulfill x.id (qfw x.p))
 else if x.kind=3 then P.act x.k ((P.en x.k).fail x.id x.expiry)
 else if x.kind=4∨x.kind=5 then P.act x.k (P.en x.k).sign
 else if x.kind=6∨x.kind=7∨x.kind=8 then (P.heard x.k).1
 else if x.kind=9 then P.act x.k (P.en x.k).shut
 else if x.kind=11 then (((P.cuts.heard 0).1).heard 1).1
 else P
structure PInv(K:Kon)(n:Nat)(P:Pr):Prop where
 prot:qb2 K n true P.a P.b P.wa P.wb
 bad:P.bad=false
 sa:P.a.k.signed≤n
 sb:P.b.k.signed≤n
theorem qvd(c:Ch)(N ex:Int)(f:Vector Int 32):(c.offer N f ex).1.k.signed=c.k.signed:=by unfold Ch.offer;split<;>rfl
theorem qwz(c:Ch)(id r:Int):(c.fail id r).1.k.signed=c.k.signed:=by
 unfold Ch.fail
 split
 ·rfl
 ·split<;>rfl
theorem qqa(c:Ch)(id:Int)(p:List Int):(c.fulfill id p).1.k.signed=c.k.signed:=by
 unfold Ch.fulfill
 split
 ·rfl
 ·split<;>rfl
theorem qyx(c:Ch):c.shut.1.k.signed=c.k.signed:=by unfold Ch.shut;split<;>rfl
theorem qy1(c:Ch):c.sign.1.k.signed≤c.k.signed+1:=by
 unfold Ch.sign
 split
 ·exact Int.le_refl _
 ·show c.k.signed≤_
  omega
theorem qmg(c:Ch)(m:MsgV):(c.hears m).1.k.signed=c.k.signed:=by
 unfold Ch.hears
 split
 ·split<;>rfl
 ·unfold Ch.hear
  split
  ·rfl
  split
  ·unfold Ch.hearAdd;split<;>rfl
  split
  ·unfold Ch.hearFulfill
   split
   ·rfl
   ·split<;>rfl
  split
  ·unfold Ch.hearFail
   split<;>rfl
  split
  ·unfold Ch.hearSign
   split
   ·show (((c.goOn 3).heardOne.goOn 4).k).signed=_
    rw[qfq]
    show ((c.goOn 3).k).signed=_
    rw[qfq]
   ·rfl
  split
  ·unfold Ch.hearRevoke
   split
   ·show (((c.shelved m).goOn 2).k).signed=_
    rw[qfq]
    rfl
   ·rfl
  unfold Ch.hearShut
  split<;>rfl
theorem qns(p:List Int):(ofI p).length=32:=qck _
theorem qil(p:List Int):qa6 (ofI p):=qez _
section
variable {K:Kon}{n m k:Nat}{P:Pr}
theorem qb2.heard{s:Bool}{a b:Ch}{wa wb:List MsgV}(h:qb2 K n s a b wa wb):0≤a.k.heard∧a.k.heard≤b.k.signed:=by
 obtain⟨Q,h,rfl,rfl,rfl,rfl,rfl⟩:=h
 have f:=h.ea.nums.1
 have g:=h.ba.sig
 refine⟨f,?_⟩
 split at g<;>omega
theorem PInv.side(h:PInv K n P)(f:k<2):qb2 K n (k==0) (P.en k) (P.en (1-k)) (P.way k) (P.way (1-k))∧(P.en k).k.signed≤n:=by
 rcases (by omega:k=0∨k=1) with rfl | rfl
 ·exact⟨h.1,h.sa⟩
 ·exact⟨h.1.flip,h.sb⟩
theorem PInv.back(f:PInv K n P)(o:k<2){r:Ch × MsgV × Int}(h:qb2 K (n+1) (k==0) r.1 (P.en (1-k)) (P.way k) (qed (P.way (1-k)) r.2.1 r.2.2))(g:r.1.k.signed≤(P.en k).k.signed+1):PInv K (n+1) (P.act k r):=by
 have i:=f.sa
 have l:=f.sb
 rcases (by omega:k=0∨k=1) with rfl | rfl
 ·have g:r.1.k.signed≤P.a.k.signed+1:=g
  exact⟨h,f.bad,by show r.1.k.signed≤_;omega,by show P.b.k.signed≤_;omega⟩
 ·have g:r.1.k.signed≤P.b.k.signed+1:=g
  exact⟨h.flip,f.bad,by show P.a.k.signed≤_;omega,by show r.1.k.signed≤_;omega⟩
theorem PInv.mono(h:PInv K n P)(f:n≤m):PInv K m P:=⟨h.1.mono f,h.2,by have:=h.sa;omega,by have:=h.sb;omega⟩
theorem PInv.long(h:PInv K n P):P.wa.length≤n+3∧P.wb.length≤n+3:=h.1.long
theorem PInv.end(f:K.Ok)(i:n<1000000)(h:PInv K n P)(g:k<2):EndOk K n (k==0) (P.en k):=(h.side g).1.endA f i
theorem EndOk.sign{s:Bool}{c:Ch}(f:K.Ok)(g:n<1000000)(h:EndOk K n s c):SignOk c:=by
 have:=f.keyb s
 refine⟨?_,h.inv.ch,by have:=h.news;omega,h.inv.few⟩
 rw[h.set]
 omega
theorem q76{s:Bool}{a b:Ch}{wa wb:List MsgV}(g:K.Ok)(x:n<100000)(h:qb2 K n s a b wa wb):quc a wa wb:=by
 unfold quc
 cases wa with
 | nil=>trivial
 | cons m y =>
  obtain⟨f,q,t,l,v⟩:=h.hears g (by omega)
  have o:=h.long
  rw[List.length_cons] at o
  have i:=h.endA g (by omega)
  have w:=f.kind
  exact⟨f.ok,⟨i.inv,by omega,l,by omega,by have:=i.last;omega⟩,by omega⟩
theorem PInv.hok(f:K.Ok)(i:n<100000)(h:PInv K n P)(g:k<2):P.Hok k:=by
 have:=q76 f i (h.side g).1
 rcases (by omega:k=0∨k=1) with rfl | rfl<;>exact this
theorem PInv.heard(l:K.Ok)(v:n<100000)(h:PInv K n P)(q:k<2):PInv K n (P.heard k).1:=by
 have o:=(h.side q).1
 obtain⟨a,b,wa,wb,bad⟩:=P
 obtain⟨i,rfl,sa,sb⟩:=h
 simp only at sa sb
 rcases (by omega:k=0∨k=1) with rfl | rfl
 ·cases wa with
  | nil=>exact⟨i,rfl,sa,sb⟩
  | cons m t =>
   obtain⟨-,f,g,-⟩:=o.hears l (by omega)
   refine⟨g,?_,by show (a.hears m).1.k.signed≤n;rw[qmg];exact sa,sb⟩
   exact(by show (false || decide ((a.hears m).2.2≠0))=false;rw[show (a.hears m).2.2=0 from f];rfl)
 ·cases wb with
  | nil=>exact⟨i,rfl,sa,sb⟩
  | cons m t =>
   obtain⟨-,f,g,-⟩:=o.hears l (by omega)
   refine⟨g.flip,?_,sa,by show (b.hears m).1.k.signed≤n;rw[qmg];exact sb⟩
   exact(by show (false || decide ((b.hears m).2.2≠0))=false;rw[show (b.hears m).2.2=0 from f];rfl)
theorem qoi{c d:Ch}(f:c.s.ch=d.s.ch)(g:0≤d.k.heard∧d.k.heard≤65534):c.hears d.again=(c,(c.hearAgain d.again).1,(c.hearAgain d.again).2):=by
 unfold Ch.hears
 rw[if_pos (show d.again.kind=9 from rfl),if_neg]
 rintro (e | e)
 ·rw[show d.again=⟨9,d.s.ch,IntKind.u64.wrap d.k.told,0,qad,0,d.k.heard+1⟩ from rfl,q44 _ _ ⟨by omega,by omega⟩] at e
  cases e
 ·exact e f.symm
theorem qv9{c:Ch}(f:0≤c.s.ch∧c.s.ch<4294967296)(g:0≤c.k.heard∧c.k.heard≤65535):MsgOk c.again :=
 qg5 ⟨by decide,by decide⟩ f (qpl _) ⟨by decide,by decide⟩ qo qde ⟨by decide,by decide⟩ ⟨by omega,by omega⟩
theorem PInv.cut(f:K.Ok)(M:n<60000)(h:PInv K n P):P.cuts.Hok 0∧((P.cuts.heard 0).1).Hok 1∧PInv K n (((P.cuts.heard 0).1).heard 1).1∧MsgOk P.a.cut.again∧MsgOk P.b.cut.again:=by
 obtain⟨a,b,wa,wb,bad⟩:=P
 obtain⟨o,rfl,sa,sb⟩:=h
 simp only at o sa sb
 have E:=o.heard
 have F:=o.flip.heard
 obtain⟨i,C,D⟩:=o.cut f (by omega)
 have ea:=i.endA f (by omega)
 have eb:=i.endB f (by omega)
 have q:=i.long
 obtain⟨J,L⟩:=i.said f
 have w:=(qkf a).2.2.2.2.2.1
 have x:=(qkf b).2.2.2.2.2.1
 have g:a.cut.s.ch=b.cut.s.ch:=by rw[ea.set,eb.set,f.ch,f.ch]
 have y:=qv9 ea.inv.ch (by rw[w];omega)
 have z:=qv9 eb.inv.ch (by rw[x];omega)
 have t:=qoi (c:=a.cut) (d:=b.cut) g (by rw[x];omega)
 have v:=qoi (c:=b.cut) (d:=a.cut) g.symm (by rw[w];omega)
 have H:(Pr.cuts ⟨a,b,wa,wb,false⟩).heard 0=(⟨a.cut,b.cut,[],[a.cut.again]++(a.cut.hearAgain b.cut.again).1,false⟩,true):=by
  show ((⟨(a.cut.hears b.cut.again).1,b.cut,[],[a.cut.again]++(a.cut.hears b.cut.again).2.1,false || decide ((a.cut.hears b.cut.again).2.2≠0)⟩:Pr),true)=_
  rw[t]
  simp only[C]
  rfl
 rw[H]
 have I:(Pr.mk a.cut b.cut [] ([a.cut.again]++(a.cut.hearAgain b.cut.again).1) false).heard 1=(⟨a.cut,b.cut,(b.cut.hearAgain a.cut.again).1,(a.cut.hearAgain b.cut.again).1,false⟩,true):=by
  show ((⟨a.cut,(b.cut.hears a.cut.again).1,[]++(b.cut.hears a.cut.again).2.1,(a.cut.hearAgain b.cut.again).1,false || decide ((b.cut.hears a.cut.again).2.2≠0)⟩:Pr),true)=_
  rw[v]
  simp only[D,List.nil_append]
  rfl
 rw[I]
 refine⟨⟨z,⟨ea.inv,⟨by show (3:Int)≤9;decide,by show (9:Int)≤9;decide⟩,?_,?_,by have:=ea.last;show a.cut.last.length≤_;omega⟩,by decide⟩,⟨y,⟨eb.inv,⟨by show (3:Int)≤9;decide,by show (9:Int)≤9;decide⟩,?_,?_,by have:=eb.last;show b.cut.last.length≤_;omega⟩,by show (a.cut.hearAgain b.cut.again).1.length<_;omega⟩,⟨i,rfl,?_,?_⟩,y,z⟩
 ·show ∀l∈(a.cut.hears b.cut.again).2.1,MsgOk l
  rw[t]
  exact fun l q=>(L l q).ok
 ·show ([a.cut.again]:List MsgV).length+(a.cut.hears b.cut.again).2.1.length≤_
  rw[t]
  show 1+(a.cut.hearAgain b.cut.again).1.length≤_
  omega
 ·show ∀l∈(b.cut.hears a.cut.again).2.1,MsgOk l
  rw[v]
  exact fun l q=>(J l q).ok
 ·show ([]:List MsgV).length+(b.cut.hears a.cut.again).2.1.length≤_
  rw[v]
  show 0+(b.cut.hearAgain a.cut.again).1.length≤_
  omega
 ·show a.cut.k.signed≤n
  rw[(qkf a).2.2.2.2.1]
  exact sa
 ·show b.cut.k.signed≤n
  rw[(qkf b).2.2.2.2.1]
  exact sb
theorem PInv.offer(o:K.Ok)(v:n<60000)(h:PInv K n P)(g:k<2){N ex:Int}{f:Vector Int 32}(q:0≤N)(t:qa6 f.toList):PInv K (n+1) (P.act k ((P.en k).offer N f ex))∧MsgOk ((P.en k).offer N f ex).2.1:=by
 obtain⟨i,l⟩:=(h.side g).1.offer o (by omega) (ex:=ex) q t
 exact⟨h.back g i (by rw[qvd];omega),l⟩
theorem PInv.fulfill(l:K.Ok)(h:PInv K n P)(f:k<2)(id:Int)(p:List Int)(o:p.length=32)(q:qa6 p):PInv K (n+1) (P.act k ((P.en k).fulfill id p))∧MsgOk ((P.en k).fulfill id p).2.1:=by
 obtain⟨g,i⟩:=(h.side f).1.fulfill l id p o q
 exact⟨h.back f g (by rw[qqa];omega),i⟩
theorem PInv.fail(l:K.Ok)(h:PInv K n P)(f:k<2)(id r:Int):PInv K (n+1) (P.act k ((P.en k).fail id r))∧MsgOk ((P.en k).fail id r).2.1:=by
 obtain⟨g,i⟩:=(h.side f).1.fail l id r
 exact⟨h.back f g (by rw[qwz];omega),i⟩
theorem PInv.sign(l:K.Ok)(h:PInv K n P)(f:k<2):PInv K (n+1) (P.act k (P.en k).sign)∧MsgOk (P.en k).sign.2.1:=by
 obtain⟨g,i⟩:=(h.side f).1.sign l
 exact⟨h.back f g (qy1 _),i⟩
theorem PInv.shut(l:K.Ok)(h:PInv K n P)(f:k<2):PInv K (n+1) (P.act k (P.en k).shut)∧MsgOk (P.en k).shut.2.1:=by
 obtain⟨g,i⟩:=(h.side f).1.shut l
 exact⟨h.back f g (by rw[qyx];omega),i⟩
theorem PInv.does(f:K.Ok)(i:n<60000)(h:PInv K n P){x:ActV}(l:x.Ok):PInv K (n+1) (P.does x):=by
 have g:=x.k_lt
 unfold Pr.does
 split
 ·exact(h.offer f i g l.n.1 (by rw[qfs (qns _)];exact qil _)).1
 split
 ·exact(h.fulfill f g _ _ (qee _) (qq9 _)).1
 split
 ·exact(h.fail f g _ _).1
 split
 ·exact(h.sign f g).1
 split
 ·exact(h.heard f (by omega) g).mono (Nat.le_succ n)
 split
 ·exact(h.shut f g).1
 split
 ·exact(h.cut f i).2.2.1.mono (Nat.le_succ n)
 ·exact h.mono (Nat.le_succ n)
end
attribute [local go_sem ↓ high] qaa qap qar qa1 qab qac qag qah
attribute [local go_sem] qcx qdn qdt zq qcy qc0 qc2 qbn
theorem qf6(x:Int):bits .and .i64 x 1=((x%2).toNat:Int):=by
 show IntKind.i64.wrap ((BitVec.ofInt 64 x &&& BitVec.ofInt 64 (1:Int)).toNat:Int)=_
 rw[BitVec.toNat_and,show (BitVec.ofInt 64 (1:Int)).toNat=1 from rfl,Nat.and_one_is_mod,BitVec.toNat_ofInt]
 have h:((x%((2 ^ 64:Nat):Int)).toNat%2:Nat)=(x%2).toNat:=by omega
 rw[h]
 exact qiz (by omega) (by omega)
abbrev ql6(B:Nat)(x:ActV):Kp:=(B,x.cells.toArray,75)
theorem qei{w:World}{B:Nat}{x:ActV}(h:qli w (ql6 B x)):w.cell? ⟨B,0,none⟩=some (.int .i64 x.kind)∧w.cell? ⟨B,1,none⟩=some (.int .i64 x.side)∧w.cell? ⟨B,2,none⟩=some (.int .i64 x.expiry)∧w.cell? ⟨B,3,none⟩=some (.int .u64 x.n)∧w.cell? ⟨B,4,none⟩=some (.int .u64 x.id)∧w.cell? ⟨B,5,none⟩=some (.int .u8 x.p) :=
 ⟨qh h 0,qh h 1,qh h 2,qh h 3,qh h 4,qh h 5⟩
theorem qci(P:Pr)(k:Nat)(c:Ch):(P.set k c).wa=P.wa∧(P.set k c).wb=P.wb:=by unfold Pr.set;split<;>exact⟨rfl,rfl⟩
theorem PrK.fresh{w0 w:World}{p:Nat}{g:Nat→Nat}{P:Pr}{Ks:List Kp}(h:PrK w0 w p g P Ks)(m:MsgV)(f:m.hash.length=32):PrK w0 (qea w m) p g P ((w.heap.size,m.cells.toArray,30)::Ks):=(h.alloc _ _).put qo f
section
variable {w0 w:World}{p:Nat}{g:Nat→Nat}{K:Kon}{n:Nat}{P:Pr}
set_option maxRecDepth 100000 in
set_option maxHeartbeats 2000000 in
theorem q38(Y:Tb w0)(H:PrK w0 w p g P [])(x:ActV)(y:x.kind=4∨x.kind=5)(k:Nat)(q:x.k=k)(r:Ch × MsgV × Int)(L:(P.en k).sign=r)(C:SignOk (P.en k))(o:MsgOk r.2.1)(z:P.wa.length<1000000∧P.wb.length<1000000) :
  Calls Tryz.prog 32 #[.pointer (some ⟨p,0,none⟩),.agg x.cells.toArray] w fun e w'=>e = .returned (.tuple #[])∧∃g',PrK w0 w' p g' (P.act k r) []:=by
 have J:k<2:=q▸x.k_lt
 have l:=o.len
 have D:=qf6 x.side
 rw[show (x.side%2).toNat=x.k from rfl,q] at D
 go_enter Tryz.func32,Tryz.ntmps32
 go_upto_region 1 with fail
 have t:=H.alloc x.cells.toArray 75
 generalize w.alloc (.cells x.cells.toArray 75)=w1 at t ⊢
 generalize w.heap.size=B at t ⊢
 obtain⟨V,W,-,-,-,-⟩:=qei (x:=x) t.one
 have cp:=t.cell J
 have f:=zde Y t J C
 rw[L] at f
 obtain⟨kd,sd,ex,N,id,pb,rest⟩:=x
 simp only at y V W D
 have Z:(k:Int)<2:=by omega
 have U:=qb (show (P.set k r.1).wa.length<1000000∧(P.set k r.1).wb.length<1000000 by rw[(qci _ _ _).1,(qci _ _ _).2];exact z)
 have T:=qb o
 obtain⟨c',m,e⟩:=r
 simp only at l f
 clear C H z t o L q
 rcases y with rfl | rfl
 all_goals
  go_wp2_with (with_reducible first|(first|refine' zr (qg ?_) ?_|refine' zt (qg ?_) ?_);rotate_left|refine' zu (qg ?_)|rfl|apply tn|refine' zv ?_)
  refine f.mono ?_
  rintro X E ⟨rfl,O⟩
  obtain⟨M,R,nF⟩:=qes E m l
  have v:=O.fresh m l
  have I:=qb R
  have v:=qb v
  clear f O R nF
  go_upto_region 16 with (with_reducible first|(first|refine' zr (qg ?_) ?_|refine' zt (qg ?_) ?_);rotate_left|refine' zu (qg ?_)|rfl|apply tn|refine' zv ?_)
  change Code.wp _ _ _ _ (qea E m)
  generalize qea E m=w3 at I v ⊢
  generalize E.heap.size=Km at I v ⊢
  have L:=(qa I).row
  have i:=qop (qa v) J m e (qa T) (qa U)
  clear M
  go_wp2_with (with_reducible first|(first|refine' zr (qg ?_) ?_|refine' zt (qg ?_) ?_);rotate_left|refine' zu (qg ?_)|rfl|apply tn|refine' zv ?_)
  refine i.mono ?_
  rintro X w4 ⟨rfl,g',F⟩
  have F:=qb F.drop.drop
  clear i
  go_wp2_with (with_reducible first|(first|refine' zr (qg ?_) ?_|refine' zt (qg ?_) ?_);rotate_left|refine' zu (qg ?_)|rfl|apply tn|refine' zv ?_)
  first | go_end0 | go_ret
  exact⟨rfl,g',qa F⟩
set_option maxRecDepth 100000 in
set_option maxHeartbeats 2000000 in
theorem q37(X:Tb w0)(H:PrK w0 w p g P [])(x:ActV)(y:x.kind=9)(k:Nat)(q:x.k=k)(r:Ch × MsgV × Int)(J:(P.en k).shut=r)(o:MsgOk r.2.1)(z:P.wa.length<1000000∧P.wb.length<1000000) :
  Calls Tryz.prog 32 #[.pointer (some ⟨p,0,none⟩),.agg x.cells.toArray] w fun e w'=>e = .returned (.tuple #[])∧∃g',PrK w0 w' p g' (P.act k r) []:=by
 have I:k<2:=q▸x.k_lt
 have l:=o.len
 have C:=qf6 x.side
 rw[show (x.side%2).toNat=x.k from rfl,q] at C
 go_enter Tryz.func32,Tryz.ntmps32
 go_upto_region 1 with fail
 have t:=H.alloc x.cells.toArray 75
 generalize w.alloc (.cells x.cells.toArray 75)=w1 at t ⊢
 generalize w.heap.size=B at t ⊢
 obtain⟨U,V,-,-,-,-⟩:=qei (x:=x) t.one
 have cp:=t.cell I
 have f:=zdd X t I
 rw[J] at f
 obtain⟨kd,sd,ex,N,id,pb,rest⟩:=x
 simp only at y U V C
 have Y:(k:Int)<2:=by omega
 have T:=qb (show (P.set k r.1).wa.length<1000000∧(P.set k r.1).wb.length<1000000 by rw[(qci _ _ _).1,(qci _ _ _).2];exact z)
 have R:=qb o
 obtain⟨c',m,e⟩:=r
 simp only at l f
 clear H z t o J q
 subst y
 all_goals
  go_wp2_with (with_reducible first|(first|refine' zr (qg ?_) ?_|refine' zt (qg ?_) ?_);rotate_left|refine' zu (qg ?_)|rfl|apply tn|refine' zv ?_)
  refine f.mono ?_
  rintro W D ⟨rfl,M⟩
  obtain⟨L,O,Z⟩:=qes D m l
  have v:=M.fresh m l
  have F:=qb O
  have v:=qb v
  clear f M O Z
  go_upto_region 23 with (with_reducible first|(first|refine' zr (qg ?_) ?_|refine' zt (qg ?_) ?_);rotate_left|refine' zu (qg ?_)|rfl|apply tn|refine' zv ?_)
  change Code.wp _ _ _ _ (qea D m)
  generalize qea D m=w3 at F v ⊢
  generalize D.heap.size=Km at F v ⊢
  have J:=(qa F).row
  have i:=qop (qa v) I m e (qa R) (qa T)
  clear L
  go_wp2_with (with_reducible first|(first|refine' zr (qg ?_) ?_|refine' zt (qg ?_) ?_);rotate_left|refine' zu (qg ?_)|rfl|apply tn|refine' zv ?_)
  refine i.mono ?_
  rintro W w4 ⟨rfl,g',E⟩
  have E:=qb E.drop.drop
  clear i
  go_wp2_with (with_reducible first|(first|refine' zr (qg ?_) ?_|refine' zt (qg ?_) ?_);rotate_left|refine' zu (qg ?_)|rfl|apply tn|refine' zv ?_)
  first | go_end0 | go_ret
  exact⟨rfl,g',qa E⟩
set_option maxRecDepth 100000 in
set_option maxHeartbeats 2000000 in
theorem qz0(C:Tb w0)(H:PrK w0 w p g P [])(x:ActV)(m:x.kind=6∨x.kind=7∨x.kind=8)(k:Nat)(i:x.k=k)(r:Pr × Bool)(v:P.heard k=r)(o:P.Hok k) :
  Calls Tryz.prog 32 #[.pointer (some ⟨p,0,none⟩),.agg x.cells.toArray] w fun e w'=>e = .returned (.tuple #[])∧∃g',PrK w0 w' p g' r.1 []:=by
 have D:k<2:=i▸x.k_lt
 have q:=qf6 x.side
 rw[show (x.side%2).toNat=x.k from rfl,i] at q
 go_enter Tryz.func32,Tryz.ntmps32
 go_upto_region 1 with fail
 have l:=H.alloc x.cells.toArray 75
 generalize w.alloc (.cells x.cells.toArray 75)=w1 at l ⊢
 generalize w.heap.size=B at l ⊢
 obtain⟨y,z,-,-,-,-⟩:=qei (x:=x) l.one
 have f:=qqi C l D o
 rw[v] at f
 obtain⟨J,M,ex,N,id,L,rest⟩:=x
 simp only at m y z q
 have E:(k:Int)<2:=by omega
 obtain⟨F,b⟩:=r
 simp only at f
 clear o H l v i
 rcases m with rfl | rfl | rfl
 all_goals
  go_wp2_with (with_reducible first|(first|refine' zr (qg ?_) ?_|refine' zt (qg ?_) ?_);rotate_left|refine' zu (qg ?_)|rfl|apply tn|refine' zv ?_)
  refine f.mono ?_
  rintro I O ⟨rfl,g',t⟩
  have t:=qb t.drop
  clear f
  go_wp2_with (with_reducible first|(first|refine' zr (qg ?_) ?_|refine' zt (qg ?_) ?_);rotate_left|refine' zu (qg ?_)|rfl|apply tn|refine' zv ?_)
  first | go_end0 | go_ret
  exact⟨rfl,g',qa t⟩
set_option maxRecDepth 100000 in
set_option maxHeartbeats 2000000 in
theorem q36(H:PrK w0 w p g P [])(x:ActV)(m:¬(0≤x.kind∧x.kind≤9)∧x.kind≠11) :
  Calls Tryz.prog 32 #[.pointer (some ⟨p,0,none⟩),.agg x.cells.toArray] w fun e w'=>e = .returned (.tuple #[])∧∃g',PrK w0 w' p g' P []:=by
 have i:=qf6 x.side
 generalize (x.side%2).toNat=k at i
 have d:(x.kind==0)=false∧(x.kind==1)=false∧(x.kind==2)=false∧(x.kind==3)=false∧(x.kind==4)=false∧(x.kind==5)=false∧(x.kind==6)=false∧(x.kind==7)=false∧(x.kind==8)=false∧(x.kind==9)=false∧(x.kind==11)=false:=by
  refine⟨?_,?_,?_,?_,?_,?_,?_,?_,?_,?_,?_⟩<;>(rw[beq_eq_false_iff_ne];omega)
 obtain⟨v,y,z,C,D,E,F,I,J,L,l⟩:=d
 clear m
 go_enter Tryz.func32,Tryz.ntmps32
 go_upto_region 1 with fail
 have f:=H.alloc x.cells.toArray 75
 generalize w.alloc (.cells x.cells.toArray 75)=w1 at f ⊢
 generalize w.heap.size=B at f ⊢
 obtain⟨q,t,-,-,-,-⟩:=qei (x:=x) f.one
 obtain⟨M,R,ex,N,id,O,rest⟩:=x
 simp only at q t i v y z C D E F I J L l
 have o:=qb f.drop
 clear H f
 go_wp2_with (with_reducible first|(first|refine' zr (qg ?_) ?_|refine' zt (qg ?_) ?_);rotate_left|refine' zu (qg ?_)|rfl|apply tn|refine' zv ?_)
 first | go_end0 | go_ret
 exact⟨rfl,g,qa o⟩
end
end Go.Proofs.YtjpmomdechibmaaGreatDoor
