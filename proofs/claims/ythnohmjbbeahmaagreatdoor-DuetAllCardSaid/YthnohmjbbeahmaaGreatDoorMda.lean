/-
  Law 14: the setups, as data.
-/
import Derived.Test.YthnohmjbbeahmaaGreatDoorMch
import Derived.Test.YthnohmjbbeahmaaGreatDoorMcb
import Derived.Test.YthnohmjbbeahmaaGreatDoorMcj
set_option linter.unusedVariables false
set_option linter.unusedSimpArgs false
namespace Go.Proofs.YthnohmjbbeahmaaGreatDoor
open Go.RowKit
def duA(ours cap:Int):SetupV:=⟨3,cap,ours,zn 5,⟨#[120]⟩,⟨#[121,121]⟩⟩
def duB(ours cap:Int):SetupV:=⟨3,cap,IntKind.u64.wrap (cap-ours),zn 6,⟨#[121,121]⟩,⟨#[120]⟩⟩
theorem zgj{ours cap:Int}(g:0≤ours∧ours<18446744073709551616)(i:0≤cap∧cap<18446744073709551616):(duA ours cap).Ok:=⟨by show (0:Int)≤3∧(3:Int)<4294967296;decide,i,g,rfl⟩
theorem zgk{ours cap:Int}(g:0≤cap∧cap<18446744073709551616):(duB ours cap).Ok:=⟨by show (0:Int)≤3∧(3:Int)<4294967296;decide,g,qqo _,rfl⟩
theorem zdn{ours cap:Int} : (duA ours cap).may↔1≤cap∧cap≤1125899906842624∧ours≤cap:=by
 unfold SetupV.may duA;constructor
 ·intro h;exact⟨h.1,h.2.1,h.2.2.1⟩
 ·intro h;exact⟨h.1,h.2.1,h.2.2,by show 1≤64;decide,by show 2≤64;decide⟩
theorem zdo{ours cap:Int}(g:0≤ours)(h:1≤cap∧cap≤1125899906842624∧ours≤cap):(duB ours cap).may:=by
 refine⟨h.1,h.2.1,?_,by show 2≤64;decide,by show 1≤64;decide⟩;show IntKind.u64.wrap (cap-ours)≤cap;rw[qaw (by omega) (by omega)];omega
end Go.Proofs.YthnohmjbbeahmaaGreatDoor
namespace Go.Proofs.YthnohmjbbeahmaaGreatDoor
open Go.RowKit Go.Sort
def qii(I:List Item):Prop:=I.Nodup∧∀x∈I,∀y∈I,¬kl x y→¬kl y x→x=y
theorem qii.perm{I J:List Item}(h:qii I)(p:I.Perm J):qii J:=⟨p.nodup_iff.1 h.1,fun x g y i=>h.2 x (p.symm.subset g) y (p.symm.subset i)⟩
theorem ze3{J:List Item}(h:J.Nodup):∃f:Item→Nat,J.zipIdx=J.map fun x=>(x,f x):=by
 classical
 refine⟨fun x=>if h:∃i,J[i]? = some x then h.choose else 0,?_⟩;apply List.ext_getElem?;intro i;rw[List.getElem?_zipIdx,List.getElem?_map];cases z:J[i]? with
 | none=>rfl
 | some x =>
  have l:∃i,J[i]? = some x:=⟨i,z⟩;have C:=l.choose_spec;have D:l.choose=i:=by
   obtain⟨t,o⟩:=List.getElem?_eq_some_iff.1 C;obtain⟨v,q⟩:=List.getElem?_eq_some_iff.1 z;have w:=List.pairwise_iff_getElem.1 h;refine Decidable.of_not_not fun m=> ?_
   rcases Nat.lt_or_gt_of_ne m with g | g
   ·exact w _ _ t v g (o.trans q.symm)
   ·exact w _ _ v t g (q.trans o.symm)
  simp only[Option.map_some];rw[dif_pos l,D,Nat.zero_add]
theorem qpk{I J X:List Item}(m:qii I)(p:I.Perm J)(h:qfo I X):qfo J X:=by
 classical
 obtain⟨M,pM,D,rfl⟩:=h;have l:(its M).Perm I:=by
  have:=pM.map (·.1);simpa [its,List.zipIdx_map_fst] using this
 have g:(its M).Nodup:=l.nodup_iff.2 m.1;have i:(its M).Pairwise kl:=by
  unfold its at g ⊢;rw[List.pairwise_map];rw[List.Nodup,List.pairwise_map] at g;refine List.Pairwise.imp_of_mem ?_ (g.and D);rintro a b w z ⟨q,o⟩;rcases o with e | ⟨t,-⟩
  ·exact e
  ·refine Decidable.of_not_not fun v=>q ?_
   exact m.2 a.1 (l.subset (List.mem_map_of_mem w)) b.1 (l.subset (List.mem_map_of_mem z)) v t
 obtain⟨f,C⟩:=ze3 (p.nodup_iff.1 m.1);refine⟨(its M).map fun x=>(x,f x),?_,?_,?_⟩
 ·rw[C];exact(l.trans p).map _
 ·show List.Pairwise lt' _;rw[List.pairwise_map];exact i.imp fun h=> .inl h
 ·unfold its;rw[List.map_map];exact(List.map_id _).symm
theorem qmg{I J:List Item}(i:qii I)(p:I.Perm J):qfn I=qfn J:=by
 classical
 by_cases h:∃X,qfo I X
 ·obtain⟨X,g⟩:=h;rw[←qs3 g,←qs3 (qpk i p g)]
 ·have l:¬ ∃X,qfo J X:=fun⟨X,g⟩=>h ⟨X,qpk (i.perm p) p.symm g⟩
  unfold qfn;rw[dif_neg h,dif_neg l]
theorem q8g(a n m:Int):IntKind.u64.wrap (IntKind.u64.wrap (a+n)+m)=IntKind.u64.wrap (IntKind.u64.wrap (a+m)+n):=by
 simp only[IntKind.wrap_u64];omega
theorem q6a(u v:Bool)(n m:Int)(p:Int × Int):qc9 v m (qc9 u n p)=qc9 u n (qc9 v m p):=by
 unfold qc9;cases u<;>cases v<;>simp[q8g]
theorem q70(ours:Bool)(p:Int × Int)(x y:Live):qbp ours (qbp ours p x) y=qbp ours (qbp ours p y) x:=by
 unfold qbp;split<;>split<;>(try split)<;>(try split)<;>first | rfl | exact q6a _ _ _ _ _ | skip
theorem qmq(ours:Bool){xs g:List Live}(p:xs.Perm g):(qz ours xs).Perm (qz ours g):=by
 unfold qz;exact(p.filter _).map _
end Go.Proofs.YthnohmjbbeahmaaGreatDoor
namespace Go.Proofs.YthnohmjbbeahmaaGreatDoor
open Go.RowKit
def qxs(xs:List Live):Prop:=∀x∈xs,0≤x.state∧x.state≤9
def qkp(ours:Bool)(ev:Int):Prop:=(ours=false∧(ev=2∨ev=3∨ev=4))∨(ours=true∧(ev=1∨ev=2∨ev=4))
theorem q3n:∀(own:Bool) (s:Fin 10),∀ev:Fin 5,∀ours:Bool,((ours=false∧(ev.val=2∨ev.val=3∨ev.val=4))∨(ours=true∧(ev.val=1∨ev.val=2∨ev.val=4))) →
  qcx ours own (qw (s.val:Int) own (ev.val:Int))=qcx ours own (s.val:Int)∧(qcx ours own (s.val:Int)=false→qen ours own (qw (s.val:Int) own (ev.val:Int))=qen ours own (s.val:Int)):=by decide +kernel
theorem qvb{ours own:Bool}{s ev:Int}(h:qkp ours ev)(m:0≤s∧s≤9):qcx ours own (qw s own ev)=qcx ours own s∧(qcx ours own s=false→qen ours own (qw s own ev)=qen ours own s):=by
 have l:0≤ev∧ev<5:=by rcases h with ⟨-,e | e | e⟩ | ⟨-,e | e | e⟩<;>omega
 have g:((s.toNat:Nat):Int)=s:=by omega
 have i:((ev.toNat:Nat):Int)=ev:=by omega
 have:=q3n own ⟨s.toNat,by omega⟩ ⟨ev.toNat,by omega⟩ ours (by
  rcases h with ⟨a,e | e | e⟩ | ⟨a,e | e | e⟩
  ·exact .inl ⟨a,.inl (by show ev.toNat=2;omega)⟩
  ·exact .inl ⟨a,.inr (.inl (by show ev.toNat=3;omega))⟩
  ·exact .inl ⟨a,.inr (.inr (by show ev.toNat=4;omega))⟩
  ·exact .inr ⟨a,.inl (by show ev.toNat=1;omega)⟩
  ·exact .inr ⟨a,.inr (.inl (by show ev.toNat=2;omega))⟩
  ·exact .inr ⟨a,.inr (.inr (by show ev.toNat=4;omega))⟩)
 simp only[g,i] at this;exact this
theorem zck{ours:Bool}{ev:Int}(h:qkp ours ev){x:Live}(m:0≤x.state∧x.state≤9)(p:Int × Int):qbp ours p (aft ev x)=qbp ours p x:=by
 obtain⟨g,i⟩:=qvb (own:=x.own) h m;unfold qbp;show (if qcx ours x.own (qw x.state x.own ev)=true then p else if (qen ours x.own (qw x.state x.own ev)&&x.paid)=true then _ else _)=_;rw[g];cases l:qcx ours x.own x.state with
 | true=>rfl
 | false=>rw[i l];rfl
theorem zcm{ours:Bool}{ev:Int}(h:qkp ours ev)(l r:Int){xs:List Live}(g:qxs xs):zq ours l r (qo ev xs)=zq ours l r xs:=by
 unfold zq qo;have key:∀(xs:List Live) (p:Int × Int),qxs xs→(xs.map (aft ev)).foldl (qbp ours) p=xs.foldl (qbp ours) p:=by
  intro xs
  induction xs with
  | nil=>intro p _;rfl
  | cons x xs m =>
   intro p g;rw[List.map_cons,List.foldl_cons,List.foldl_cons,zck h (g x (List.mem_cons_self ..)),m _ (fun y i=>g y (List.mem_cons_of_mem _ i))]
 exact key xs (l,r) g
theorem q6r{ours:Bool}{ev:Int}(h:qkp ours ev){xs:List Live}(i:qxs xs):qz ours (qo ev xs)=qz ours xs:=by
 unfold qz qo
 induction xs with
 | nil=>rfl
 | cons x xs g =>
  have g:=g (fun y m=>i y (List.mem_cons_of_mem _ m));have l:qcx ours (aft ev x).own (aft ev x).state=qcx ours x.own x.state:=(qvb (own:=x.own) h (i x (List.mem_cons_self ..))).1;rw[List.map_cons,List.filter_cons,List.filter_cons,l];cases qcx ours x.own x.state with
  | true=>simp only[if_true,List.map_cons];rw[g];rfl
  | false=>simpa using g
theorem qit(ours:Bool)(y:Live)(L:List Live):∀p:Int × Int,L.foldl (qbp ours) (qbp ours p y)=qbp ours (L.foldl (qbp ours) p) y:=by
 induction L with
 | nil=>intro p;rfl
 | cons x L g =>
  intro p;rw[List.foldl_cons,List.foldl_cons,q70,g]
theorem qyv(ours own:Bool):qcx ours own 9=false∧qen ours own 9=true:=by cases ours<;>cases own<;>decide
theorem qt8(c:Ch)(g:Bool)(n:Int):((c.give g n).loc,(c.give g n).rem)=qc9 g n (c.loc,c.rem):=by
 unfold Ch.give qc9;cases g<;>rfl
theorem qu2(ours:Bool)(g:List Live):∀c:Ch,zq ours (g.foldl qbl c).loc (g.foldl qbl c).rem (qa7 g)=zq ours c.loc c.rem g:=by
 unfold zq
 induction g with
 | nil=>intro c;rfl
 | cons y g o =>
  intro c;rw[List.foldl_cons,List.foldl_cons];by_cases i:y.state=9
  ·have l:qbl c y=c.give (y.own != y.paid) y.h.amount:=by unfold qbl;rw[if_pos i]
   have m:qa7 (y::g)=qa7 g:=by unfold qa7;rw[List.filter_cons,i];rfl
   have q:qbp ours (c.loc,c.rem) y=qc9 (y.own != y.paid) y.h.amount (c.loc,c.rem):=by
    unfold qbp;obtain⟨a1,a2⟩:=qyv ours y.own;rw[i,a1,a2];cases y.own<;>cases y.paid<;>rfl
   rw[l,m,o,qt8,q]
  ·have l:qbl c y=c:=by unfold qbl;rw[if_neg i]
   have m:qa7 (y::g)=y::qa7 g:=by
    unfold qa7;rw[List.filter_cons];have:(!(y.state==9))=true:=by simpa using i
    rw[this];rfl
   rw[l,m,List.foldl_cons,qit,o,qit]
theorem qr0(ours:Bool)(i:List Live):qz ours (qa7 i)=qz ours i:=by
 unfold qz qa7;rw[List.filter_filter];congr 1;refine List.filter_congr fun x _=> ?_
 by_cases g:x.state=9
 ·rw[g,(qyv ours x.own).1];rfl
 ·have:(!(x.state==9))=true:=by simpa using g
  rw[this,Bool.and_true]
theorem q8d{ours:Bool}{ev:Int}(h:qkp ours ev)(c:Ch)(g:qxs c.xs):zq ours (c.goOn ev).loc (c.goOn ev).rem (c.goOn ev).xs=zq ours c.loc c.rem c.xs∧qz ours (c.goOn ev).xs=qz ours c.xs:=by
 refine⟨?_,?_⟩
 ·show zq ours ((qo ev c.xs).foldl qbl c).loc ((qo ev c.xs).foldl qbl c).rem (qa7 (qo ev c.xs))=_;rw[qu2,zcm h _ _ g]
 ·show qz ours (qa7 (qo ev c.xs))=_;rw[qr0,q6r h g]
theorem qof{ours:Bool}{ev:Int}(h:qkp ours ev)(key:ByteArray)(ch n:Int)(c:Ch)(l:qxs c.xs):zt ours key ch n (c.goOn ev).loc (c.goOn ev).rem (c.goOn ev).xs=zt ours key ch n c.loc c.rem c.xs:=by
 obtain⟨g,i⟩:=q8d h c l;unfold zt qie qif;rw[g,i]
def za(c:Ch)(x:Live):Ch :=
 if x.state=0 then (if x.own=true then {c.give true x.h.amount with k:= {c.k with nextOwn:=IntKind.u64.wrap (c.k.nextOwn-1)}} else {c.give false x.h.amount with k:= {c.k with nextTheirs:=IntKind.u64.wrap (c.k.nextTheirs-1)}}) else c
def qag(x:Live):Live:=if x.state=5 then {x with state:=4,paid:=false} else x
def qe1(xs:List Live):List Live:=(xs.filter fun x=> !(x.state==0)).map qag
def qem(xs:List Live):List Htlc:=(xs.filter fun x=>x.state==0&&x.own).map (·.h)
def qd9(xs:List Live):List Int:=(xs.filter fun x=>x.state==5 && !x.own).map (·.h.id)
def Ch.unsaid(c:Ch)(xs:List Live):Ch:= {c with xs:=xs,news:=[],k:= {c.k with shutHeard:=false}}
def Ch.cut(c:Ch):Ch:=(c.xs.foldl za c).unsaid (qe1 c.xs)
theorem q5t{xs:List Live}{i:Nat}{x:Live}(l:xs[i]? = some x):qe1 (xs.take (i+1))=qe1 (xs.take i)++(if x.state=0 then [] else [qag x]):=by
 unfold qe1;rw[List.take_add_one,l,List.filter_append,List.map_append];by_cases h:x.state=0<;>simp[h]
theorem q5s{xs:List Live}{i:Nat}{x:Live}(c:Ch)(l:xs[i]? = some x):(xs.take (i+1)).foldl za c=za ((xs.take i).foldl za c) x:=by
 rw[List.take_add_one,l,List.foldl_append];rfl
theorem q5u{xs:List Live}{i:Nat}{x:Live}(l:xs[i]? = some x):qem (xs.take (i+1))=qem (xs.take i)++(if x.state=0∧x.own=true then [x.h] else []):=by
 unfold qem;rw[List.take_add_one,l,List.filter_append,List.map_append];by_cases h:x.state=0<;>cases m:x.own<;>simp[h,m]
theorem q5v{xs:List Live}{i:Nat}{x:Live}(l:xs[i]? = some x):qd9 (xs.take (i+1))=qd9 (xs.take i)++(if x.state=5∧x.own=false then [x.h.id] else []):=by
 unfold qd9;rw[List.take_add_one,l,List.filter_append,List.map_append];by_cases h:x.state=5<;>cases m:x.own<;>simp[h,m]
theorem qyf(xs:List Live):(qe1 xs).length≤xs.length:=by
 unfold qe1;rw[List.length_map];exact List.length_filter_le _ _
theorem q85(xs:List Live):(qem xs).length≤xs.length:=by
 unfold qem;rw[List.length_map];exact List.length_filter_le _ _
theorem q86(xs:List Live):(qd9 xs).length≤xs.length:=by
 unfold qd9;rw[List.length_map];exact List.length_filter_le _ _
theorem q1f{x:Live}(h:LiveOk x):LiveOk (qag x):=by
 unfold qag;split
 ·exact⟨h.h,by show _≤(4:Int)∧(4:Int)≤_;decide⟩
 ·exact h
section
variable {w:World}{g:Nat}{S:Nat→Prop}{c:Ch}{lv nv av:Value}
theorem ChP.putNextOwn(h:ChP w g S c lv nv av)(n:Int)(i:0≤n∧n<18446744073709551616):ChP (w.setCell ⟨g,40,none⟩ (.int .u64 n)) g S {c with k:= {c.k with nextOwn:=n}} lv nv av :=
 h.put (qpu c lv nv av h.ok.s.seed n) ⟨h.ok.s,h.ok.signed,h.ok.heard,i,h.ok.nextTheirs,h.ok.loc,h.ok.rem,h.ok.xs,h.ok.few,h.ok.shelf,h.ok.news,h.ok.last,h.ok.many⟩ rfl rfl rfl
theorem ChP.putNextTheirs(h:ChP w g S c lv nv av)(n:Int)(i:0≤n∧n<18446744073709551616):ChP (w.setCell ⟨g,41,none⟩ (.int .u64 n)) g S {c with k:= {c.k with nextTheirs:=n}} lv nv av :=
 h.put (qli c lv nv av h.ok.s.seed n) ⟨h.ok.s,h.ok.signed,h.ok.heard,h.ok.nextOwn,i,h.ok.loc,h.ok.rem,h.ok.xs,h.ok.few,h.ok.shelf,h.ok.news,h.ok.last,h.ok.many⟩ rfl rfl rfl
end
theorem zak:∃i z b,Tryz.prog.info? 54=some i∧i.zero=some z∧i.size=35∧i.bytes=b∧z.cells.size=35∧b≤1000:=by
 obtain⟨i,z,m,t,q⟩:=qec Tryz.zeroHtlc';have l:(Tryz.prog.info? 54).map (fun i=>decide (i.bytes≤1000))=some true:=by kernel_rfl
 have o:=Tryz.infoHtl;rw[m,Option.map_some,Option.some.injEq] at l o;exact⟨i,z,i.bytes,m,t,o,rfl,by rw[q];rfl,of_decide_eq_true l⟩
theorem Tryz.zeroU64:((Tryz.prog.info? 27).map fun i=>i.zero.map fun z=>z.cells.toList)=some (some [.int .u64 0]):=by kernel_rfl
theorem Tryz.infoU64:(Tryz.prog.info? 27).map (·.size)=some 1:=by kernel_rfl
theorem zcx:∃i z b,Tryz.prog.info? 27=some i∧i.zero=some z∧i.size=1∧i.bytes=b∧z.cells.size=1∧b≤1000:=by
 obtain⟨i,z,m,t,q⟩:=qec Tryz.zeroU64;have l:(Tryz.prog.info? 27).map (fun i=>decide (i.bytes≤1000))=some true:=by kernel_rfl
 have o:=Tryz.infoU64;rw[m,Option.map_some,Option.some.injEq] at l o;exact⟨i,z,i.bytes,m,t,o,rfl,by rw[q];rfl,of_decide_eq_true l⟩
def zfb(n:Nat)(p:Array (Nat × Value)):Sem Value:=Instr.buildSlice 88 n p
theorem qx6(n:Nat)(p:Array (Nat × Value)):Instr.buildSlice 88 n p=zfb n p:=rfl
theorem zgh(A:List Value)(w:World):(zfb 1 #[(0,.agg A.toArray)]).run Tryz.prog w=if A.length=35 then .ok (.slice (some ⟨w.heap.size,0,none⟩) 1 1) (w.alloc (.cells A.toArray 54)) else (Instr.buildSlice 88 1 #[(0,.agg A.toArray)]).run Tryz.prog w:=by
 by_cases h:A.length=35
 ·rw[if_pos h];exact q23 Tryz.underlying88 Tryz.zeroHtlc' Tryz.infoHtl rfl (by decide) (by decide) A h w
 ·rw[if_neg h];rfl
theorem zax(x:Live):(ql x).toArray.extract 0 (0+35)=(ze x.h).toArray:=by
 apply Array.ext';rw[Array.toList_extract];unfold ql;rw[List.extract_eq_take_drop];simp[qbh]
structure CutS(w0 w:World)(g K R:Nat)(S:Nat→Prop)(ci:Ch)(lv nv av kv ov rv:Value)(ks:List Live)(os:List Htlc)(rs:List Int):Prop where
 ch:ChP w g S ci lv nv av
 k:w.heap[K]? = some (.cells #[ov,rv] 91 (0,0))
 r:w.heap[R]? = some (.cells #[.slice none 0 0,.slice none 0 0] 91 (0,0))
 ko:w.ownsRow w0.heap.size 56 38 kv ks.length (ks.flatMap ql)
 oo:w.ownsRow w0.heap.size 54 35 ov os.length (os.flatMap ze)
 ro:w.ownsRow w0.heap.size 27 1 rv rs.length (rs.map (Value.int .u64))
 u:Upd (· = g) w0 w
 lt:∀k,S k→k<w0.heap.size
 kge:w0.heap.size≤K
 rge:w0.heap.size≤R
 ne:R≠K
section
variable {w0 w w':World}{g K R:Nat}{S:Nat→Prop}{ci cj:Ch}{lv nv av kv ov rv v:Value}{ks ks':List Live}{os os':List Htlc}{rs rs':List Int}
theorem CutS.glt(h:CutS w0 w g K R S ci lv nv av kv ov rv ks os rs):g<w0.heap.size:=h.lt g h.ch.inG
theorem CutS.new(h:CutS w0 w g K R S ci lv nv av kv ov rv ks os rs)(n:qu w w'):CutS w0 w' g K R S ci lv nv av kv ov rv ks os rs :=
 ⟨h.ch.new n,n.old h.k (fun h=>h),n.old h.r (fun h=>h),zc h.ko n (fun _ _ h=>h),zc h.oo n (fun _ _ h=>h),zc h.ro n (fun _ _ h=>h),h.u.trans (n.mono (fun _ _ h=>h.elim)),h.lt,h.kge,h.rge,h.ne⟩
theorem CutS.op(h:CutS w0 w g K R S ci lv nv av kv ov rv ks os rs)(m:ChP w' g S cj lv nv av)(u:Upd (· = g) w w'):CutS w0 w' g K R S cj lv nv av kv ov rv ks os rs:=by
 have z:=h.glt;have i:∀ {T:TypeId} {t n:Nat} {v:Value} {l:List Value},w.ownsRow w0.heap.size T t v n l→∀k,v.ownBlock=some k→¬k=g:=fun q k o e=>by have:=qsh q k o;omega
 have:=h.kge;have:=h.rge;exact⟨m,u.old h.k (fun e=>by omega),u.old h.r (fun e=>by omega),zc h.ko u (i h.ko),zc h.oo u (i h.oo),zc h.ro u (i h.ro),h.u.trans u,h.lt,h.kge,h.rge,h.ne⟩
theorem CutS.grow(h:CutS w0 w g K R S ci lv nv av kv ov rv ks os rs){T:TypeId}{M n:Nat}{l:List Value}(q:w.ownsRow w0.heap.size T M v n l)(u:Upd (fun k=>v.ownBlock=some k) w w')(I:T≠91) :
  ChP w' g S ci lv nv av∧w'.heap[K]? = some (.cells #[ov,rv] 91 (0,0))∧w'.heap[R]? = some (.cells #[.slice none 0 0,.slice none 0 0] 91 (0,0)) ∧
  (T≠56→w'.ownsRow w0.heap.size 56 38 kv ks.length (ks.flatMap ql))∧(T≠54→w'.ownsRow w0.heap.size 54 35 ov os.length (os.flatMap ze))∧(T≠27→w'.ownsRow w0.heap.size 27 1 rv rs.length (rs.map (Value.int .u64)))∧Upd (· = g) w0 w':=by
 have E:∀ {U:TypeId} {t J:Nat} {F:Value} {l2:List Value},T≠U→w.ownsRow w0.heap.size U t F J l2→∀k,F.ownBlock=some k→¬v.ownBlock=some k:=by
  intro U t J F l2 D L k C e;obtain⟨H,m⟩:=qai q k e;obtain⟨N,z⟩:=qai L k C;exact qao m z D rfl
 refine⟨h.ch.upd u (fun k C e=>by have:=h.lt k C;have:=qsh q k e;omega),u.old h.k ?_,u.old h.r ?_,fun o=>zc h.ko u (E o h.ko),fun o=>zc h.oo u (E o h.oo),fun o=>zc h.ro u (E o h.ro),h.u.then u (fun i O e=>by have:=qsh q i e;omega)⟩
 ·intro e;obtain⟨H,m⟩:=qai q K e;exact qao m h.k I rfl
 ·intro e;obtain⟨H,m⟩:=qai q R e;exact qao m h.r I rfl
theorem CutS.putO(h:CutS w0 w g K R S ci lv nv av kv ov rv ks os rs)(u:Upd (fun k=>ov.ownBlock=some k) w w')(H:w'.ownsRow w0.heap.size 54 35 v os'.length (os'.flatMap ze)):CutS w0 (w'.setCell ⟨K,0,none⟩ v) g K R S ci lv nv av kv v rv ks os' rs:=by
 obtain⟨a1,a2,a3,E,-,F,J⟩:=h.grow h.oo u (by decide);have N:CutS w0 w' g K R S ci lv nv av kv ov rv ks [] rs→True:=fun _=>trivial
 have l:Upd (· = K) w' (w'.setCell ⟨K,0,none⟩ v):=(Upd.refl _ _).set1 0 v;have O:=h.glt;have M:=h.kge;have o:=h.ne;have C:∀ {U:TypeId} {m I:Nat} {D:Value} {l2:List Value},U≠91→w'.ownsRow w0.heap.size U m D I l2→∀k,D.ownBlock=some k→¬k=K:=by
  intro U m I D l2 z o k t e;obtain⟨L,q⟩:=qai o k t;exact qao q a2 z e
 exact⟨a1.upd l (fun k t e=>by have:=h.lt k t;omega),by rw[z7 a2];rfl,l.old a3 o,zc (E (by decide)) l (C (by decide) (E (by decide))),zc H l (C (by decide) H),zc (F (by decide)) l (C (by decide) (F (by decide))),J.then l (fun i P e=>by omega),h.lt,h.kge,h.rge,h.ne⟩
theorem CutS.putR(h:CutS w0 w g K R S ci lv nv av kv ov rv ks os rs)(u:Upd (fun k=>rv.ownBlock=some k) w w')(H:w'.ownsRow w0.heap.size 27 1 v rs'.length (rs'.map (Value.int .u64))):CutS w0 (w'.setCell ⟨K,1,none⟩ v) g K R S ci lv nv av kv ov v ks os rs':=by
 obtain⟨a1,a2,a3,E,F,-,J⟩:=h.grow h.ro u (by decide);have l:Upd (· = K) w' (w'.setCell ⟨K,1,none⟩ v):=(Upd.refl _ _).set1 1 v;have N:=h.glt;have M:=h.kge;have o:=h.ne;have C:∀ {U:TypeId} {m I:Nat} {D:Value} {l2:List Value},U≠91→w'.ownsRow w0.heap.size U m D I l2→∀k,D.ownBlock=some k→¬k=K:=by
  intro U m I D l2 z o k t e;obtain⟨L,q⟩:=qai o k t;exact qao q a2 z e
 exact⟨a1.upd l (fun k t e=>by have:=h.lt k t;omega),by rw[z7 a2];rfl,l.old a3 o,zc (E (by decide)) l (C (by decide) (E (by decide))),zc (F (by decide)) l (C (by decide) (F (by decide))),zc H l (C (by decide) H),J.then l (fun i O e=>by omega),h.lt,h.kge,h.rge,h.ne⟩
theorem CutS.putL(h:CutS w0 w g K R S ci lv nv av kv ov rv ks os rs)(u:Upd (fun k=>kv.ownBlock=some k) w w')(o:w'.ownsRow w0.heap.size 56 38 v ks'.length (ks'.flatMap ql)):CutS w0 w' g K R S ci lv nv av v ov rv ks' os rs:=by
 obtain⟨a1,a2,a3,-,i,l,m⟩:=h.grow h.ko u (by decide);exact⟨a1,a2,a3,o,i (by decide),l (by decide),m,h.lt,h.kge,h.rge,h.ne⟩
theorem CutS.other(h:CutS w0 w g K R S ci lv nv av kv ov rv ks os rs){X:Nat}(u:Upd (· = X) w w')(o:w.heap.size≤X∨(w0.heap.size≤X∧X≠K∧X≠R∧(∀k,kv.ownBlock=some k→k≠X)∧(∀k,ov.ownBlock=some k→k≠X)∧(∀k,rv.ownBlock=some k→k≠X))):CutS w0 w' g K R S ci lv nv av kv ov rv ks os rs:=by
 have L:=h.glt;have N:=h.u.size;have z:∀ {U:TypeId} {q D:Nat} {C:Value} {l2:List Value},w.ownsRow w0.heap.size U q C D l2→∀k,C.ownBlock=some k→k<w.heap.size:=by
  intro U q D C l2 E k m;obtain⟨J,t⟩:=qai E k m;exact z6 t
 have F:=z6 h.k;have H:=z6 h.r;have I:w0.heap.size≤X:=by rcases o with e | e<;>omega
 refine⟨h.ch.upd u (fun k m e=>by have:=h.lt k m;omega),u.old h.k (fun e=>by rcases o with l | l<;>omega),u.old h.r (fun e=>by rcases o with l | l<;>omega),zc h.ko u (fun k m e=> ?_),zc h.oo u (fun k m e=> ?_),zc h.ro u (fun k m e=> ?_),h.u.then u (fun i M e=>by omega),h.lt,h.kge,h.rge,h.ne⟩
 ·have:=z h.ko k m;rcases o with l | l
  ·omega
  ·exact l.2.2.2.1 k m e
 ·have:=z h.oo k m;rcases o with l | l
  ·omega
  ·exact l.2.2.2.2.1 k m e
 ·have:=z h.ro k m;rcases o with l | l
  ·omega
  ·exact l.2.2.2.2.2 k m e
end
theorem ChP.noNews{w:World}{g:Nat}{S:Nat→Prop}{c:Ch}{lv nv av:Value}(h:ChP w g S c lv nv av):ChP (w.setCell ⟨g,626,none⟩ qcd) g S {c with news:=[]} lv qcd av:=by
 have u:Upd (· = g) w (w.setCell ⟨g,626,none⟩ qcd):=(Upd.refl _ _).set1 626 _;have i:=z7 h.at_ 626 qcd;rw[qsv c lv nv av h.ok.s.seed h.ok.shelf [] qcd] at i;have t:∀ {T:TypeId} {q n:Nat} {v:Value} {l:List Value},T≠106→w.ownsRow 0 T q v n l→∀k,v.ownBlock=some k→¬k=g:=by
  intro T q n v l C F k o e;obtain⟨z,D⟩:=qai F k o;exact qao D h.at_ C e
 exact⟨i,⟨h.ok.s,h.ok.signed,h.ok.heard,h.ok.nextOwn,h.ok.nextTheirs,h.ok.loc,h.ok.rem,h.ok.xs,h.ok.few,h.ok.shelf,(fun m E=>by cases E),h.ok.last,⟨Nat.zero_le _,h.ok.many.2⟩⟩,zc h.live u (t (by decide) h.live),World.ownsRow_nil _ _ _ _,zc h.last u (t (by decide) h.last),h.inG,h.inL,(fun k e=>by cases e),h.inA,(fun k e=>by cases e),fun k o=>Nat.lt_of_lt_of_le (h.lt k o) u.size⟩
theorem qze(x:Live):(((ql x).toArray.setIfInBounds 36 (.int .i64 4)).setIfInBounds 37 (.bool false))=(ql {x with state:=4,paid:=false}).toArray:=by
 unfold ql;rw[List.setIfInBounds_toArray,List.setIfInBounds_toArray,List.set_append_right _ _ (by rw[qbh];omega),List.set_append_right _ _ (by rw[qbh];omega),qbh];rfl
theorem qri(ours own:Bool):qcx ours own 0=false∧qen ours own 0=false:=by cases ours<;>cases own<;>decide
theorem qk0(ours own:Bool):qcx ours own 4=true∧qcx ours own 5=true:=by cases ours<;>cases own<;>decide
theorem qo4(ours:Bool)(p:Int × Int){x:Live}(h:x.state=0):qbp ours p x=qc9 x.own x.h.amount p:=by
 unfold qbp;obtain⟨a1,a2⟩:=qri ours x.own;rw[h,a1,a2];rfl
theorem qoa(ours:Bool)(p:Int × Int){x:Live}(h:x.state=4∨x.state=5):qbp ours p x=p:=by
 unfold qbp;obtain⟨a1,a2⟩:=qk0 ours x.own;rcases h with h | h
 ·rw[h,a1];rfl
 ·rw[h,a2];rfl
theorem qu4(ours:Bool)(l r:Int)(xs:List Live)(x:Live):zq ours l r (xs++[x])=xs.foldl (qbp ours) (qbp ours (l,r) x):=by
 unfold zq;rw[List.foldl_append,List.foldl_cons,List.foldl_nil,qit]
theorem zcp(ours:Bool){l r:Int}(xs:List Live){x:Live}(h:x.state=0)(i:x.own=true)(g:0≤l∧l<18446744073709551616):zq ours (l-x.h.amount) r (xs++[x])=zq ours l r xs:=by
 rw[qu4,qo4 ours _ h,i];unfold qc9 zq;simp only[if_true];rw[show l-x.h.amount+x.h.amount=l by omega,qaw g.1 (by omega)]
theorem q3j(ours:Bool){l r:Int}(xs:List Live){x:Live}(h:x.state=0)(g:x.own=false)(i:0≤r∧r<18446744073709551616):zq ours l (r-x.h.amount) (xs++[x])=zq ours l r xs:=by
 rw[qu4,qo4 ours _ h,g];unfold qc9 zq;simp only[Bool.false_eq_true,if_false];rw[show r-x.h.amount+x.h.amount=r by omega,qaw i.1 (by omega)]
theorem qr1(ours:Bool)(xs:List Live){x:Live}(h:x.state=0):qz ours (xs++[x])=qz ours xs:=by
 unfold qz;rw[List.filter_append,List.filter_cons,h,(qri ours x.own).1];simp
theorem q0l(ours:Bool)(l r:Int){xs:List Live}{i:Nat}{x y:Live}(g:xs[i]? = some x)(m:x.state=4∨x.state=5)(o:y.state=4∨y.state=5):zq ours l r (xs.set i y)=zq ours l r xs:=by
 unfold zq;have key:∀(xs:List Live) (i:Nat) (p:Int × Int),xs[i]? = some x→(xs.set i y).foldl (qbp ours) p=xs.foldl (qbp ours) p:=by
  intro xs
  induction xs with
  | nil=>intro i p h;cases h
  | cons z t q =>
   intro i p h;cases i with
   | zero =>
    rw[List.getElem?_cons_zero] at h;injection h with h;subst h;rw[List.set_cons_zero,List.foldl_cons,List.foldl_cons,qoa ours p m,qoa ours p o]
   | succ i =>
    rw[List.set_cons_succ,List.foldl_cons,List.foldl_cons];exact q i _ (by rw[List.getElem?_cons_succ] at h;exact h)
 exact key xs i (l,r) g
theorem quf(ours:Bool){xs:List Live}{i:Nat}{x y:Live}(g:xs[i]? = some x)(v:x.state=4∨x.state=5)(w:y.state=4∨y.state=5)(t:y.own=x.own)(q:y.h=x.h):qz ours (xs.set i y)=qz ours xs:=by
 have l:qcx ours x.own x.state=true:=by
  obtain⟨a1,a2⟩:=qk0 ours x.own;rcases v with e | e<;>rw[e]<;>assumption
 have m:qcx ours y.own y.state=true:=by
  obtain⟨a1,a2⟩:=qk0 ours y.own;rcases w with e | e<;>rw[e]<;>assumption
 unfold qz
 induction xs generalizing i with
 | nil=>cases g
 | cons z C o =>
  cases i with
  | zero =>
   rw[List.getElem?_cons_zero] at g;injection g with g;subst g;rw[List.set_cons_zero,List.filter_cons,List.filter_cons,l,m];simp only[if_true,List.map_cons];rw[t,q]
  | succ i =>
   rw[List.getElem?_cons_succ] at g;rw[List.set_cons_succ,List.filter_cons,List.filter_cons];cases qcx ours z.own z.state with
   | true=>simp only[if_true,List.map_cons];rw[o g]
   | false=>simpa using o g
theorem zcn(ours:Bool)(g:List Live):∀c:Ch,zq ours (g.foldl za c).loc (g.foldl za c).rem (qe1 g)=zq ours c.loc c.rem g:=by
 unfold zq
 induction g with
 | nil=>intro c;rfl
 | cons y g q =>
  intro c;rw[List.foldl_cons,List.foldl_cons];by_cases i:y.state=0
  ·have l:qe1 (y::g)=qe1 g:=by unfold qe1;rw[List.filter_cons,i];rfl
   have m:((za c y).loc,(za c y).rem)=qc9 y.own y.h.amount (c.loc,c.rem):=by
    rw[←qt8];unfold za;rw[if_pos i];cases y.own<;>rfl
   rw[l,q,m,qo4 ours _ i]
  ·have t:za c y=c:=by unfold za;rw[if_neg i]
   have l:qe1 (y::g)=qag y::qe1 g:=by
    unfold qe1;rw[List.filter_cons];have:(!(y.state==0))=true:=by simpa using i
    rw[this];rfl
   have m:∀p,qbp ours p (qag y)=qbp ours p y:=by
    intro p;unfold qag;by_cases o:y.state=5
    ·rw[if_pos o,qoa ours p (.inr o)];exact qoa ours p (.inl rfl)
    ·rw[if_neg o]
   rw[t,l,List.foldl_cons,qit,q,m,qit]
theorem q6s(ours:Bool)(g:List Live):qz ours (qe1 g)=qz ours g:=by
 unfold qz qe1
 induction g with
 | nil=>rfl
 | cons y g m =>
  have v:(y::g).filter (fun x:Live=>qcx ours x.own x.state)=if qcx ours y.own y.state=true then y::g.filter (fun x:Live=>qcx ours x.own x.state) else g.filter (fun x:Live=>qcx ours x.own x.state):=List.filter_cons ..;rw[v,List.filter_cons];by_cases o:y.state=0
  ·rw[o,(qri ours y.own).1];simpa using m
  ·have i:(!(y.state==0))=true:=by simpa using o
   rw[i];simp only[if_true,List.map_cons];rw[List.filter_cons];have q:qcx ours (qag y).own (qag y).state=qcx ours y.own y.state:=by
    unfold qag;by_cases l:y.state=5
    ·rw[if_pos l,l,(qk0 ours y.own).2];exact(qk0 ours y.own).1
    ·rw[if_neg l]
   have t:(⟨(qag y).own==ours,(qag y).h⟩:Item)=⟨y.own==ours,y.h⟩:=by
    unfold qag;split<;>rfl
   rw[q];cases qcx ours y.own y.state with
   | true=>simp only[if_true,List.map_cons];rw[t,m]
   | false=>simpa using m
theorem qgi{ours:Bool}{l r i m:Int}{xs g:List Live}(key:ByteArray)(ch n:Int)(o:zq ours l r xs=zq ours i m g)(q:qz ours xs=qz ours g):zt ours key ch n l r xs=zt ours key ch n i m g:=by
 unfold zt qie qif;rw[o,q]
theorem q0s(ours:Bool)(key:ByteArray)(ch n:Int)(c:Ch):zt ours key ch n c.cut.loc c.cut.rem c.cut.xs=zt ours key ch n c.loc c.rem c.xs :=
 qgi key ch n (zcn ours c.xs c) (q6s ours c.xs)
end Go.Proofs.YthnohmjbbeahmaaGreatDoor
namespace Go.Proofs.YthnohmjbbeahmaaGreatDoor
@[reducible] def It:=Int × Int × Nat × Bool × Nat × Nat
def qa1:List It:=[(-1,-1,0,false,0,0),(-1,-1,0,false,0,2),(-1,-1,0,false,0,4),(-1,-1,0,false,0,1),(-1,-1,0,false,0,3),(-1,-1,0,false,2,0),(-1,-1,0,false,2,2),(-1,-1,0,false,4,0),(-1,-1,0,false,1,0),(-1,-1,0,false,1,1),(-1,-1,0,false,3,0),(0,-1,1,false,0,0),(0,-1,1,false,0,2),(0,-1,1,false,0,4),(0,-1,1,false,0,1),(0,-1,1,false,0,3),(0,-1,1,false,2,0),(0,-1,1,false,2,2),(0,-1,1,false,4,0),(0,-1,1,false,1,0),(0,-1,1,false,1,1),(0,-1,1,false,3,0),(0,0,0,false,0,0),(0,0,0,false,0,2),(0,0,0,false,0,4),(0,0,0,false,0,1),(0,0,0,false,0,3),(0,0,0,false,2,0),(0,0,0,false,2,2),(1,-1,1,true,4,0),(1,-1,1,true,1,0),(1,-1,1,true,1,1),(1,-1,1,true,3,0),(1,0,0,false,4,0),(1,0,0,false,1,0),(1,0,0,false,1,1),(1,0,0,false,3,0),(1,2,0,false,0,2),(1,2,0,false,0,3),(1,2,0,false,2,2),(1,3,0,false,0,4),(2,2,0,false,0,0),(2,2,0,false,0,2),(2,2,0,false,2,0),(2,2,0,false,4,0),(2,2,0,false,1,0),(2,3,0,false,0,4),(2,3,0,false,0,1),(2,3,0,false,0,3),(2,3,0,false,1,1),(4,3,0,false,2,0),(4,3,0,false,2,2),(4,3,0,false,4,0),(4,3,0,false,3,0),(4,4,0,false,0,0),(4,4,0,false,0,2),(4,4,0,false,0,4),(4,4,0,false,0,1),(4,4,0,false,0,3),(4,4,0,false,2,0),(4,4,0,false,2,2),(4,4,0,false,4,0),(4,4,0,false,1,0),(4,4,0,false,1,1),(4,4,0,false,3,0),(4,5,2,false,0,0),(4,5,2,false,0,2),(4,5,2,false,0,4),(4,5,2,false,0,1),(4,5,2,false,0,3),(4,5,2,false,2,0),(4,5,2,false,2,2),(4,5,2,false,4,0),(4,5,2,false,1,0),(4,5,2,false,1,1),(4,5,2,false,3,0),(4,6,2,true,0,4),(4,6,2,true,0,1),(4,6,2,true,0,3),(4,6,2,true,1,1),(5,5,0,false,0,0),(5,5,0,false,0,2),(5,5,0,false,2,0),(5,5,0,false,2,2),(5,5,0,false,4,0),(5,5,0,false,1,0),(5,5,0,false,3,0),(5,6,0,false,0,4),(5,6,0,false,0,1),(5,6,0,false,0,3),(5,6,0,false,1,1),(7,6,0,false,2,0),(7,6,0,false,2,2),(7,6,0,false,3,0),(7,7,0,false,0,0),(7,7,0,false,0,2),(7,7,0,false,0,4),(7,7,0,false,0,1),(7,7,0,false,2,0),(8,6,0,false,4,0),(8,7,0,false,4,0),(8,7,0,false,1,0),(8,7,0,false,1,1),(8,7,0,false,3,0),(8,9,0,false,0,2),(8,9,0,false,0,4),(8,9,0,false,0,3),(8,9,0,false,2,2),(9,9,0,false,0,0),(9,9,0,false,0,2),(9,9,0,false,0,4),(9,9,0,false,0,1),(9,9,0,false,0,3),(9,9,0,false,2,0),(9,9,0,false,2,2),(9,9,0,false,4,0),(9,9,0,false,1,0),(9,9,0,false,1,1),(9,9,0,false,3,0)]
def qxm(w:Nat):Nat:=if w=0 then 1 else if w=2 then 4 else 9
def qxl(w:Nat):Nat:=if w=0 then 2 else if w=1 then 3 else 9
def q8e(w:Nat):Nat:=if w=3 then 2 else if w=4 then 1 else 0
def qay(w:Nat):Bool:=w==1 || w==3 || w==4
def qbu(w:Nat):Bool:=w==2 || w==3 || w==4
def q0n(w:Nat):Bool:=w==1 || w==3
def zhq(w:Nat):Bool:=w==2 || w==4
def It.offer:It→It | (_,_,_,_,g,i)=>(0,-1,1,false,g,i)
def It.signA:It→It | (sa,sb,up,cov,g,i)=>(qw sa true 1,sb,up,if up=1 then true else cov,qxm g,i)
def It.signB:It→It | (sa,sb,up,cov,g,i)=>(sa,qw sb false 1,up,if up=2 then true else cov,g,qxm i)
def It.remove:It→It | (sa,_,_,_,g,i)=>(sa,5,2,false,g,i)
def It.hearAdd:It→It | (sa,_,_,_,g,i)=>(sa,0,0,false,g,i)
def It.hearRem:It→It | (_,sb,_,_,g,i)=>(5,sb,0,false,g,i)
def It.hearSB:It→It | (sa,sb,up,cov,g,i)=>(sa,qw (qw sb false 3) false 4,up,cov,q8e g,qxl i)
def It.hearSA:It→It | (sa,sb,up,cov,g,i)=>(qw (qw sa true 3) true 4,sb,up,cov,qxl g,q8e i)
def It.hearRA:It→It | (sa,sb,up,cov,g,i)=>(qw sa true 2,sb,up,cov,g,q8e i)
def It.hearRB:It→It | (sa,sb,up,cov,g,i)=>(sa,qw sb false 2,up,cov,q8e g,i)
def zh6(g i:Int)(l m:Nat):It:=if g=1∧i = -1 then (g,i,1,true,l,m) else if g=4∧i=6 then (g,i,2,true,l,m) else (g,i,0,false,l,m)
def zg(s:Int):Int:=if s=5 then 4 else if s=0 then -1 else s
def It.cut:It→It | (sa,sb,_,_,g,i)=>zh6 (zg sa) (zg sb) g i
theorem qzy:∀x∈qa1,x.1 = -1→x.2.1 = -1→It.offer x∈qa1:=by decide +kernel
theorem qz0:∀x∈qa1,qay x.2.2.2.2.1=false→qbu x.2.2.2.2.2=false→It.signA x∈qa1:=by decide +kernel
theorem qz1:∀x∈qa1,qay x.2.2.2.2.2=false→qbu x.2.2.2.2.1=false→It.signB x∈qa1:=by decide +kernel
theorem qwz:∀x∈qa1,x.2.1=4→It.remove x∈qa1∧x.2.2.1=0:=by decide +kernel
theorem qtl:∀x∈qa1,x.2.2.1=1→(x.2.2.2.1=true∨qay x.2.2.2.2.1=false)→It.hearAdd x∈qa1∧x.2.1 = -1∧(x.1=0∨x.1=1):=by decide +kernel
theorem qtm:∀x∈qa1,x.2.2.1=2→(x.2.2.2.1=true∨qay x.2.2.2.2.2=false)→It.hearRem x∈qa1∧x.1=4:=by decide +kernel
theorem qwx:∀x∈qa1,q0n x.2.2.2.2.1=true→¬(x.2.2.1=1∧x.2.2.2.1=true)→It.hearSB x∈qa1:=by decide +kernel
theorem qww:∀x∈qa1,q0n x.2.2.2.2.2=true→¬(x.2.2.1=2∧x.2.2.2.1=true)→It.hearSA x∈qa1:=by decide +kernel
theorem qwu:∀x∈qa1,zhq x.2.2.2.2.2=true→It.hearRA x∈qa1:=by decide +kernel
theorem qwv:∀x∈qa1,zhq x.2.2.2.2.1=true→It.hearRB x∈qa1:=by decide +kernel
theorem q7n:∀x∈qa1,It.cut x∈qa1:=by decide +kernel
theorem qsm:∀x∈qa1,x.2.2.1=0→x.2.2.2.2.1=0→x.2.2.2.2.2=0→qw x.1 true 1=x.1→qw x.2.1 false 1=x.2.1→(x.1 = -1∧x.2.1 = -1)∨(x.1=4∧x.2.1=4)∨(x.1=9∧x.2.1=9):=by decide +kernel
end Go.Proofs.YthnohmjbbeahmaaGreatDoor
namespace Go.Proofs.YthnohmjbbeahmaaGreatDoor
open Go.RowKit
theorem q6d{α:Type}{c:Ch}{ev:Int}{G:List α}(f f':α→Option Live)(t:c.xs.Perm (G.filterMap f))(q:∀g∈G,f' g=((f g).map (aft ev)).filter (fun x=> !(x.state==9))):(c.goOn ev).xs.Perm (G.filterMap f'):=by
 show (qa7 (qo ev c.xs)).Perm _;have o:(qa7 (qo ev c.xs)).Perm (qa7 (qo ev (G.filterMap f))):=by
  unfold qa7 qo;exact(t.map _).filter _
 refine o.trans (List.Perm.of_eq ?_);unfold qa7 qo;clear t o
 induction G with
 | nil=>rfl
 | cons g G m =>
  have m:=m (fun y w=>q y (List.mem_cons_of_mem _ w));have l:=q g (List.mem_cons_self ..);cases i:f g with
  | none =>
   rw[i] at l;rw[List.filterMap_cons_none i,List.filterMap_cons_none l];exact m
  | some x =>
   rw[i] at l;rw[List.filterMap_cons_some i,List.map_cons,List.filter_cons];cases v:(!((aft ev x).state==9)) with
   | true =>
    have e:f' g=some (aft ev x):=by rw[l];simp only[Option.map_some,Option.filter_some,v,if_true]
    rw[List.filterMap_cons_some e,if_pos rfl,m]
   | false =>
    have e:f' g=none:=by rw[l];simp only[Option.map_some,Option.filter_some,v,Bool.false_eq_true,if_false]
    rw[List.filterMap_cons_none e,if_neg (by decide),m]
def qb5(g:Bool)(i:List Live):Int:=(i.map fun y=>if y.state=9∧(y.own != y.paid)=g then y.h.amount else 0).sum
theorem qfq(m:Bool)(g:List Live)(h:∀y∈g,0≤y.h.amount):0≤qb5 m g:=by
 unfold qb5
 induction g with
 | nil=>exact Int.le_refl _
 | cons y g l =>
  rw[List.map_cons,List.sum_cons];have o:=l (fun z i=>h z (List.mem_cons_of_mem _ i));have q:=h y (List.mem_cons_self ..);split<;>omega
theorem qgt{l m:List Int}(p:l.Perm m):l.sum=m.sum:=by
 induction p with
 | nil=>rfl
 | cons x _ o=>rw[List.sum_cons,List.sum_cons,o]
 | swap x y l=>simp only[List.sum_cons];omega
 | trans _ _ g i=>exact g.trans i
theorem qv7(g:Bool){xs i:List Live}(p:xs.Perm i):qb5 g xs=qb5 g i:=by
 unfold qb5;exact qgt (p.map _)
theorem q55(g:List Live):∀c:Ch,(∀y∈g,0≤y.h.amount)→0≤c.loc→0≤c.rem→c.loc+qb5 true g<18446744073709551616→c.rem+qb5 false g<18446744073709551616 →
  (g.foldl qbl c).loc=c.loc+qb5 true g∧(g.foldl qbl c).rem=c.rem+qb5 false g:=by
 induction g with
 | nil =>
  intro c _ _ _ _ _;exact⟨(Int.add_zero _).symm,(Int.add_zero _).symm⟩
 | cons y g C =>
  intro c D F H q t;have i:∀z∈g,0≤z.h.amount:=fun z I=>D z (List.mem_cons_of_mem _ I)
  have J:=D y (List.mem_cons_self ..);have K:=qfq true g i;have L:=qfq false g i;have e:∀v,qb5 v (y::g)=(if y.state=9∧(y.own != y.paid)=v then y.h.amount else 0)+qb5 v g:=fun v=>by unfold qb5;rw[List.map_cons,List.sum_cons]
  rw[e] at q t;rw[List.foldl_cons,e,e];by_cases l:y.state=9
  ·have w:qbl c y=c.give (y.own != y.paid) y.h.amount:=by unfold qbl;rw[if_pos l]
   rw[w];cases E:(y.own != y.paid) with
   | true =>
    rw[E] at q t;rw[if_pos ⟨l,rfl⟩] at q;rw[if_neg (fun h=>by cases h.2)] at t;rw[if_pos ⟨l,rfl⟩,if_neg (fun h=>by cases h.2)];have m:(c.give true y.h.amount).loc=c.loc+y.h.amount:=by
     show IntKind.u64.wrap (c.loc+y.h.amount)=_;exact qaw (by omega) (by omega)
    have o:(c.give true y.h.amount).rem=c.rem:=rfl;obtain⟨i1,i2⟩:=C (c.give true y.h.amount) i (by rw[m];omega) (by rw[o];omega) (by rw[m];omega) (by rw[o];omega);rw[i1,i2,m,o];exact⟨by omega,by omega⟩
   | false =>
    rw[E] at q t;rw[if_neg (fun h=>by cases h.2)] at q;rw[if_pos ⟨l,rfl⟩] at t;rw[if_neg (fun h=>by cases h.2),if_pos ⟨l,rfl⟩];have m:(c.give false y.h.amount).loc=c.loc:=rfl;have o:(c.give false y.h.amount).rem=c.rem+y.h.amount:=by
     show IntKind.u64.wrap (c.rem+y.h.amount)=_;exact qaw (by omega) (by omega)
    obtain⟨i1,i2⟩:=C (c.give false y.h.amount) i (by rw[m];omega) (by rw[o];omega) (by rw[m];omega) (by rw[o];omega);rw[i1,i2,m,o];exact⟨by omega,by omega⟩
  ·have w:qbl c y=c:=by unfold qbl;rw[if_neg l]
   rw[if_neg (fun h=>l h.1)] at q t;rw[w,if_neg (fun h=>l h.1),if_neg (fun h=>l h.1)];obtain⟨i1,i2⟩:=C c i F H (by omega) (by omega);rw[i1,i2];exact⟨by omega,by omega⟩
theorem q6b(c:Ch)(ev:Int)(l:∀y∈c.xs,0≤y.h.amount)(m:0≤c.loc)(o:0≤c.rem)(g:c.loc+qb5 true (qo ev c.xs)<18446744073709551616)(i:c.rem+qb5 false (qo ev c.xs)<18446744073709551616) :
  (c.goOn ev).loc=c.loc+qb5 true (qo ev c.xs)∧(c.goOn ev).rem=c.rem+qb5 false (qo ev c.xs) :=
 q55 _ c (fun y t=>by
  obtain⟨x,q,rfl⟩:=List.mem_map.1 t;exact l x q) m o g i
theorem qdz{α:Type}(y:α):∀(xs:List α) (i:Nat) (x:α),xs[i]? = some x→xs.Perm (x::xs.eraseIdx i)∧(xs.set i y).Perm (y::xs.eraseIdx i)
 | [],_,_,h=>by cases h
 | z::zs,0,x,h=>by
  rw[List.getElem?_cons_zero] at h;injection h with h;subst h;exact⟨List.Perm.refl _,List.Perm.refl _⟩
 | z::zs,i+1,x,h=>by
  rw[List.getElem?_cons_succ] at h;obtain⟨g,l⟩:=qdz y zs i x h;rw[List.set_cons_succ,List.eraseIdx_cons_succ];exact⟨(g.cons z).trans (List.Perm.swap x z _),(l.cons z).trans (List.Perm.swap y z _)⟩
theorem q0r{α:Type}{G:List α}{j:Nat}{g g':α}(f:α→Option Live){xs:List Live}{i:Nat}{x y:Live}(D:xs.Perm (G.filterMap f))(z:G[j]? = some g)(w:f g=some x)(l:f g'=some y)(C:xs[i]? = some x):(xs.set i y).Perm ((G.set j g').filterMap f):=by
 obtain⟨t,v⟩:=qdz g' G j g z;obtain⟨E,F⟩:=qdz y xs i x C;have m:(G.filterMap f).Perm (x::(G.eraseIdx j).filterMap f):=by
  have:=t.filterMap f;rwa [List.filterMap_cons_some w] at this
 have o:((G.set j g').filterMap f).Perm (y::(G.eraseIdx j).filterMap f):=by
  have:=v.filterMap f;rwa [List.filterMap_cons_some l] at this
 have q:(xs.eraseIdx i).Perm ((G.eraseIdx j).filterMap f):=((E.symm.trans D).trans m).cons_inv;exact F.trans ((q.cons y).trans o.symm)
theorem q5q{α:Type}{G:List α}{j:Nat}{g g':α}(f:α→Option Live){xs:List Live}{y:Live}(w:xs.Perm (G.filterMap f))(v:G[j]? = some g)(t:f g=none)(i:f g'=some y):(xs++[y]).Perm ((G.set j g').filterMap f):=by
 obtain⟨o,q⟩:=qdz g' G j g v;have l:(G.filterMap f).Perm ((G.eraseIdx j).filterMap f):=by
  have:=o.filterMap f;rwa [List.filterMap_cons_none t] at this
 have m:((G.set j g').filterMap f).Perm (y::(G.eraseIdx j).filterMap f):=by
  have:=q.filterMap f;rwa [List.filterMap_cons_some i] at this
 exact(List.perm_append_singleton y xs).trans (((w.trans l).cons y).trans m.symm)
theorem q7t{α:Type}{G:List α}{j:Nat}{g g':α}(f:α→Option Live){xs:List Live}(w:xs.Perm (G.filterMap f))(v:G[j]? = some g)(t:f g'=f g):xs.Perm ((G.set j g').filterMap f):=by
 obtain⟨o,q⟩:=qdz g' G j g v;have l:=o.filterMap f;have i:=q.filterMap f;have m:(g'::G.eraseIdx j).filterMap f=(g::G.eraseIdx j).filterMap f:=by
  rw[List.filterMap_cons,List.filterMap_cons,t]
 rw[m] at i;exact w.trans (l.trans i.symm)
theorem qga{own:Bool}{id:Int}{xs:List Live}{i:Nat}{x:Live}(h:qbf own id xs=some (i,x)):xs[i]? = some x∧x.own=own∧x.h.id=id∧x.state=4:=by
 obtain⟨-,l,g⟩:=qhg h;unfold qc8 at g;simp only[Bool.and_eq_true,beq_iff_eq] at g;exact⟨l,g.1,g.2.1,g.2.2⟩
theorem qx5{own:Bool}{id:Int}{xs:List Live}{x:Live}(D:x∈xs)(w:x.own=own)(v:x.h.id=id)(z:x.state=4)(C:∀y∈xs,y.own=own→y.h.id=id→y=x):∃i,qbf own id xs=some (i,x):=by
 cases g:qbf own id xs with
 | none =>
  exfalso;unfold qbf at g;cases l:xs.findIdx? (qc8 own id) with
  | none =>
   have:=List.findIdx?_eq_none_iff.1 l x D;unfold qc8 at this;simp[w,v,z] at this
  | some k =>
   rw[l] at g;have g:Option.map (fun x=>(k,x)) xs[k]? = none:=g;obtain⟨m,-,-⟩:=List.findIdx?_eq_some_iff_getElem.1 l;rw[List.getElem?_eq_getElem m] at g;cases g
 | some p =>
  obtain⟨i,y⟩:=p;obtain⟨o,q,t,-⟩:=qga g;have:=C y (List.mem_of_getElem? o) q t;subst this;exact⟨i,rfl⟩
def qa6(own:Bool)(h:Htlc)(s:Int)(paid:Bool):Option Live:=if 0≤s∧s≤8 then some ⟨h,own,s,paid&&decide (5≤s)⟩ else none
inductive En where
 | upd (j:Nat)
 | sgn
 | rev
 | shut
def qj:List En→Nat
 | []=>0
 | .upd _::es=>qj es
 | .shut::es=>qj es
 | .sgn::es=>if qj es=0 then 1 else if qj es=2 then 3 else 9
 | .rev::es=>if qj es=0 then 2 else if qj es=1 then 4 else 9
theorem qjf(es:List En)(j:Nat):qj (es++[.upd j])=qj es:=by
 induction es with
 | nil=>rfl
 | cons e es g=>cases e<;>simp only[List.cons_append,qj,g]
theorem qs5(es:List En):qj (es++[.shut])=qj es:=by
 induction es with
 | nil=>rfl
 | cons e es g=>cases e<;>simp only[List.cons_append,qj,g]
theorem qvd(es:List En)(h:qj es=0∨qj es=2):qj (es++[.sgn])=qxm (qj es):=by
 induction es with
 | nil=>rfl
 | cons e es i =>
  cases e with
  | upd j=>exact i h
  | shut=>exact i h
  | sgn =>
   exfalso;unfold qj at h;split at h
   ·omega
   ·split at h<;>omega
  | rev =>
   have g:qj es=0:=by
    unfold qj at h;split at h
    ·assumption
    ·split at h<;>omega
   have:=i (.inl g);rw[g] at this;show (if qj (es++[.sgn])=0 then 2 else if qj (es++[.sgn])=1 then 4 else 9)=qxm (if qj es=0 then 2 else if qj es=1 then 4 else 9);rw[this,g];rfl
theorem qvc(es:List En)(h:qj es=0∨qj es=1):qj (es++[.rev])=qxl (qj es):=by
 induction es with
 | nil=>rfl
 | cons e es i =>
  cases e with
  | upd j=>exact i h
  | shut=>exact i h
  | rev =>
   exfalso;unfold qj at h;split at h
   ·omega
   ·split at h<;>omega
  | sgn =>
   have g:qj es=0:=by
    unfold qj at h;split at h
    ·assumption
    ·split at h<;>omega
   have:=i (.inl g);rw[g] at this;show (if qj (es++[.rev])=0 then 1 else if qj (es++[.rev])=2 then 3 else 9)=qxl (if qj es=0 then 1 else if qj es=2 then 3 else 9);rw[this,g];rfl
def conL(mine:Bool)(s:Int)(paid:Bool)(n:Int):Int:=if s = -1 then 0 else if s=9 then (if paid then (if mine then -n else n) else 0) else (if mine then -n else 0)
def zk(s:Int)(mine:Bool)(ev:Int):Int:=if 0≤s∧s≤8 then qw s mine ev else s
theorem qeu{s:Int}{mine:Bool}{ev:Int}(h:0≤s∧s≤8):qw s mine ev=s∨qw s mine ev=s+1:=by
 unfold qw;split
 ·exact .inr rfl
 ·exact .inl rfl
theorem q83{s:Int}(mine paid:Bool)(ev n:Int)(h:0≤s∧s≤8):conL mine (qw s mine ev) paid n=conL mine s paid n+(if qw s mine ev=9∧(mine != (paid&&decide (5≤s)))=true then n else 0):=by
 by_cases g:qw s mine ev=9
 ·have o:s=8:=by rcases qeu (mine:=mine) (ev:=ev) h with e | e<;>omega
  rw[g];subst o;cases mine<;>cases paid<;>simp[conL]<;>omega
 ·rw[if_neg (fun e=>g e.1),Int.add_zero];have m:¬qw s mine ev = -1:=by
   intro q;rcases qeu (mine:=mine) (ev:=ev) h with e | e<;>omega
  have i:conL mine (qw s mine ev) paid n=if mine then -n else 0:=by unfold conL;rw[if_neg m,if_neg g]
  have l:conL mine s paid n=if mine then -n else 0:=by unfold conL;rw[if_neg (show ¬s = -1 by omega),if_neg (show ¬s=9 by omega)]
  rw[i,l]
structure Seen(α:Type) where
 mine:α→Bool
 st:α→Int
 h:α→Htlc
 paid:α→Bool
def Seen.show{α:Type}(v:Seen α)(g:α):Option Live:=qa6 (v.mine g) (v.h g) (v.st g) (v.paid g)
def Seen.conL{α:Type}(v:Seen α)(G:List α):Int:=(G.map fun g=>Go.Proofs.YthnohmjbbeahmaaGreatDoor.conL (v.mine g) (v.st g) (v.paid g) (v.h g).amount).sum
def Seen.conR{α:Type}(v:Seen α)(G:List α):Int:=(G.map fun g=>Go.Proofs.YthnohmjbbeahmaaGreatDoor.conL (!v.mine g) (v.st g) (v.paid g) (v.h g).amount).sum
def Seen.on{α:Type}(v:Seen α)(ev:Int):Seen α:= {v with st:=fun g=>zk (v.st g) (v.mine g) ev}
theorem qpj{α:Type}(l:Bool)(f:α→Option Live)(ev:Int)(G:List α):qb5 l (qo ev (G.filterMap f))=(G.map fun g=>match f g with | none=>0 | some x=>if (aft ev x).state=9∧(x.own != x.paid)=l then x.h.amount else 0).sum:=by
 unfold qb5 qo
 induction G with
 | nil=>rfl
 | cons g G m =>
  rw[List.map_cons,List.sum_cons,←m];cases i:f g with
  | none=>rw[List.filterMap_cons_none i];simp only;omega
  | some x =>
   rw[List.filterMap_cons_some i,List.map_cons,List.map_cons,List.sum_cons];rfl
theorem q33{α:Type}(v:Seen α)(ev:Int)(G:List α):(v.on ev).conL G=v.conL G+qb5 true (qo ev (G.filterMap v.show)):=by
 rw[qpj];unfold Seen.conL
 induction G with
 | nil=>rfl
 | cons g G l =>
  simp only[List.map_cons,List.sum_cons];have i:Go.Proofs.YthnohmjbbeahmaaGreatDoor.conL ((v.on ev).mine g) ((v.on ev).st g) ((v.on ev).paid g) ((v.on ev).h g).amount=Go.Proofs.YthnohmjbbeahmaaGreatDoor.conL (v.mine g) (v.st g) (v.paid g) (v.h g).amount+(match v.show g with | none=>0 | some x=>if (aft ev x).state=9∧(x.own != x.paid)=true then x.h.amount else 0):=by
   show Go.Proofs.YthnohmjbbeahmaaGreatDoor.conL (v.mine g) (zk (v.st g) (v.mine g) ev) (v.paid g) (v.h g).amount=_;unfold Seen.show qa6 zk;by_cases h:0≤v.st g∧v.st g≤8
   ·rw[if_pos h,if_pos h];exact q83 _ _ _ _ h
   ·rw[if_neg h,if_neg h];simp
  rw[i,l];omega
theorem q5r{s:Int}(mine paid:Bool)(ev n:Int)(h:0≤s∧s≤8):conL (!mine) (qw s mine ev) paid n=conL (!mine) s paid n+(if qw s mine ev=9∧(mine != (paid&&decide (5≤s)))=false then n else 0):=by
 by_cases g:qw s mine ev=9
 ·have o:s=8:=by rcases qeu (mine:=mine) (ev:=ev) h with e | e<;>omega
  rw[g];subst o;cases mine<;>cases paid<;>simp[conL]<;>omega
 ·rw[if_neg (fun e=>g e.1),Int.add_zero];have m:¬qw s mine ev = -1:=by
   intro q;rcases qeu (mine:=mine) (ev:=ev) h with e | e<;>omega
  have i:conL (!mine) (qw s mine ev) paid n=if !mine then -n else 0:=by unfold conL;rw[if_neg m,if_neg g]
  have l:conL (!mine) s paid n=if !mine then -n else 0:=by unfold conL;rw[if_neg (show ¬s = -1 by omega),if_neg (show ¬s=9 by omega)]
  rw[i,l]
theorem q34{α:Type}(v:Seen α)(ev:Int)(G:List α):(v.on ev).conR G=v.conR G+qb5 false (qo ev (G.filterMap v.show)):=by
 rw[qpj];unfold Seen.conR
 induction G with
 | nil=>rfl
 | cons g G l =>
  simp only[List.map_cons,List.sum_cons];have i:Go.Proofs.YthnohmjbbeahmaaGreatDoor.conL (!(v.on ev).mine g) ((v.on ev).st g) ((v.on ev).paid g) ((v.on ev).h g).amount=Go.Proofs.YthnohmjbbeahmaaGreatDoor.conL (!v.mine g) (v.st g) (v.paid g) (v.h g).amount+(match v.show g with | none=>0 | some x=>if (aft ev x).state=9∧(x.own != x.paid)=false then x.h.amount else 0):=by
   show Go.Proofs.YthnohmjbbeahmaaGreatDoor.conL (!v.mine g) (zk (v.st g) (v.mine g) ev) (v.paid g) (v.h g).amount=_;unfold Seen.show qa6 zk;by_cases h:0≤v.st g∧v.st g≤8
   ·rw[if_pos h,if_pos h];exact q5r _ _ _ _ h
   ·rw[if_neg h,if_neg h];simp
  rw[i,l];omega
theorem q7a(mine:Bool)(ev:Int):qw 4 mine ev=4:=by
 unfold qw;rw[if_neg];rintro ⟨-,g,i⟩;apply g;rw[←i];cases mine<;>rfl
theorem zdr{s:Int}{mine:Bool}{ev:Int}(h:0≤s∧s≤8):decide (5≤qw s mine ev)=decide (5≤s):=by
 by_cases i:s=4
 ·rw[i,q7a]
 ·rcases qeu (mine:=mine) (ev:=ev) h with e | e
  ·rw[e]
  ·rw[e];by_cases g:5≤s
   ·rw[decide_eq_true g,decide_eq_true (by omega)]
   ·rw[decide_eq_false g,decide_eq_false (by omega)]
theorem zen{α:Type}(v:Seen α)(ev:Int)(g:α):(v.on ev).show g=((v.show g).map (aft ev)).filter (fun x=> !(x.state==9)):=by
 show qa6 (v.mine g) (v.h g) (zk (v.st g) (v.mine g) ev) (v.paid g)=_;unfold Seen.show qa6 zk;by_cases h:0≤v.st g∧v.st g≤8
 ·rw[if_pos h,if_pos h];have o:=qeu (mine:=v.mine g) (ev:=ev) h;have l:=zdr (mine:=v.mine g) (ev:=ev) h;show _=(some (aft ev ⟨v.h g,v.mine g,v.st g,v.paid g&&decide (5≤v.st g)⟩)).filter _;have ea:aft ev ⟨v.h g,v.mine g,v.st g,v.paid g&&decide (5≤v.st g)⟩=⟨v.h g,v.mine g,qw (v.st g) (v.mine g) ev,v.paid g&&decide (5≤v.st g)⟩:=rfl;rw[ea,Option.filter_some];by_cases i:qw (v.st g) (v.mine g) ev=9
  ·rw[i,if_neg (by omega),if_neg (by simp)]
  ·have m:0≤qw (v.st g) (v.mine g) ev∧qw (v.st g) (v.mine g) ev≤8:=by rcases o with e | e<;>omega
   rw[if_pos m,if_pos (by simpa using i),l]
 ·rw[if_neg h,if_neg h];rfl
theorem qiu{α:Type}{c:Ch}(v:Seen α)(ev:Int)(G:List α){L R:Int}(m:c.xs.Perm (G.filterMap v.show))(E:c.loc=L+v.conL G)(F:c.rem=R+v.conR G)(t:∀y∈c.xs,0≤y.h.amount)(w:0≤c.loc)(z:0≤c.rem)
  (b1:L+(v.on ev).conL G<18446744073709551616) (b2:R+(v.on ev).conR G<18446744073709551616) :
  (c.goOn ev).xs.Perm (G.filterMap (v.on ev).show)∧(c.goOn ev).loc=L+(v.on ev).conL G∧(c.goOn ev).rem=R+(v.on ev).conR G:=by
 have i:∀l,qb5 l (qo ev c.xs)=qb5 l (qo ev (G.filterMap v.show)):=fun l=>qv7 l (m.map _)
 have C:=q33 v ev G
 have D:=q34 v ev G
 obtain⟨o,q⟩:=q6b c ev t w z (by rw[i];omega) (by rw[i];omega)
 refine⟨q6d _ _ m (fun g _=>zen v ev g),?_,?_⟩
 ·rw[o,i];omega
 ·rw[q,i];omega
end Go.Proofs.YthnohmjbbeahmaaGreatDoor
