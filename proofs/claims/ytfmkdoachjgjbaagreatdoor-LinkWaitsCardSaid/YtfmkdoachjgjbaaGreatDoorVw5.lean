/-
  view.Of: its sums (the closure), its loop.
-/
import Derived.Test.YtfmkdoachjgjbaaGreatDoorMag
import Derived.Deep.CutRange
set_option maxRecDepth 100000
set_option maxHeartbeats 4000000
set_option linter.unusedVariables false
set_option linter.unusedSimpArgs false
namespace Go.Proofs.YtfmkdoachjgjbaaGreatDoor
open Go.RowKit Go.Sort
attribute [local go_sem ↓ high] qba qsl qbn qrt qrx
attribute [local go_sem] qdk q9v qd2 q8u q80
def qyu(w:World)(v:Value)(X:List Item):Prop:=(∃a c,v = .slice a 0 c∧X=[])∨∃g cap,v = .slice (some ⟨g,0,none⟩) X.length cap∧qc7 w g 0 X
def qar(ours:Bool)(xs:List Live):List Item:=(xs.filter fun x=>qm1 ours x.own x.state).map fun x=>⟨x.own==ours,x.h⟩
def qe6(f:Bool)(n:Int)(p:Int × Int):Int × Int:=if f then (IntKind.u64.wrap (p.1+n),p.2) else (p.1,IntKind.u64.wrap (p.2+n))
def qfg(ours:Bool)(p:Int × Int)(x:Live):Int × Int :=
 if qm1 ours x.own x.state then p else if qku ours x.own x.state&&x.paid then qe6 (!x.own) x.h.amount p else qe6 x.own x.h.amount p
def qa7(ours:Bool)(l r:Int)(xs:List Live):Int × Int:=xs.foldl (qfg ours) (l,r)
theorem qks(m:Bool)(n:Int)(b1 b2:Nat)(p:b1≠b2)(T:TypeId)(x y:Int)(w:World)(f:w.heap[b1]? = some (.cells #[.int .u64 x] T (0,0)))(i:w.heap[b2]? = some (.cells #[.int .u64 y] T (0,0))) :
  Calls Tryz.prog 158 #[.bool m,.int .u64 n,.pointer (some ⟨b1,0,none⟩),.pointer (some ⟨b2,0,none⟩)] w fun e w'=>e = .returned (.tuple #[])∧Upd (fun k=>k=b1∨k=b2) w w'∧w'.heap[b1]? = some (.cells #[.int .u64 (qe6 m n (x,y)).1] T (0,0))∧w'.heap[b2]? = some (.cells #[.int .u64 (qe6 m n (x,y)).2] T (0,0)):=by
 have q:w.cell? ⟨b1,0,none⟩=some (.int .u64 x):=qg f 0
 have v:w.cell? ⟨b2,0,none⟩=some (.int .u64 y):=qg i 0
 have z:w.frozen? ⟨b1,0,none⟩=false:=qo f 0
 have C:w.frozen? ⟨b2,0,none⟩=false:=qo i 0
 cases m
 ·go_enter Tryz.func158,Tryz.ntmps158;go_wp2;go_end0;exact⟨rfl,(Upd.refl _ _).setCell (fun _=> .inr rfl) _,(((Upd.refl (· = b2) w).set1 0 _).old f (fun e=>p e)),zt i 0 _⟩
 ·go_enter Tryz.func158,Tryz.ntmps158;go_wp2;go_end0;exact⟨rfl,(Upd.refl _ _).setCell (fun _=> .inl rfl) _,zt f 0 _,(((Upd.refl (· = b1) w).set1 0 _).old i (fun e=>p e.symm))⟩
theorem Tryz.infoItemB:(Tryz.prog.info? 254).map (fun i=>(i.size,i.bytes,i.zero.map (·.cells.size)))=some (36,64,some 36):=by kernel_rfl
theorem q1l:∃i z,Tryz.prog.info? 254=some i∧i.zero=some z∧i.size=36∧i.bytes=64∧z.cells.size=36:=by
 have h:=Tryz.infoItemB;cases p:Tryz.prog.info? 254 with
 | none=>rw[p] at h;simp at h
 | some i =>
  rw[p] at h;simp only[Option.map_some,Option.some.injEq,Prod.mk.injEq] at h;obtain⟨q,v,f⟩:=h;cases m:i.zero with
  | none=>rw[m] at f;simp at f
  | some z=>rw[m] at f;simp at f;exact⟨i,z,rfl,m,q,v,f⟩
theorem qcs(w:World)(x y:Obj)(n:Nat)(i:w.heap.size=n):((w.alloc x).alloc y).drew.heap[n]? = some x∧((w.alloc x).alloc y).drew.heap[n+1]? = some y∧qu w ((w.alloc x).alloc y).drew:=by
 subst i;refine⟨qq (qh w x) y,?_,(((Upd.refl _ _).alloc _).alloc _).drew⟩;have:=qh (w.alloc x) y;have f:(w.alloc x).heap.size=w.heap.size+1:=by simp
 rw[f] at this;exact this
theorem Tryz.infoView:(Tryz.prog.info? 201).map (·.size)=some 3:=by kernel_rfl
def qza(w:World)(k:Nat)(A B C:Value):World:=((w.setCell ⟨k,0,none⟩ A).setCell ⟨k,1,none⟩ B).setCell ⟨k,2,none⟩ C
theorem qjk{w:World}{k:Nat}{a b c:Value}{T:TypeId}(A B C:Value)(h:w.heap[k]? = some (.cells #[a,b,c] T (0,0))):(qza w k A B C).heap[k]? = some (.cells #[A,B,C] T (0,0)):=by
 unfold qza;rw[zt (zt (zt h 0 A) 1 B) 2 C];simp
theorem qlr(w:World)(k:Nat)(A B C:Value):Upd (· = k) w (qza w k A B C):=(((Upd.refl (· = k) w).set1 0 A).set1 1 B).set1 2 C
theorem qjl{w0 w:World}{k:Nat}(h:qu w0 w)(m:w0.heap.size≤k)(A B C:Value):qu w0 (qza w k A B C):=h.then (qlr w k A B C) (fun i f e=>by omega)
theorem zcm(ours:Bool)(l r:Int)(v:Value)(xs:List Live)(hl:xs.length≤19)(w:World)(hG:Spans w)(hv:qgu w v xs) :
  Calls Tryz.prog 121 #[.bool ours,.agg #[.int .u64 l,.int .u64 r],v] w fun e w'=>∃u X,e = .returned (.agg #[.int .u64 (if ours then (qa7 ours l r xs).1 else (qa7 ours l r xs).2),.int .u64 (if ours then (qa7 ours l r xs).2 else (qa7 ours l r xs).1),u]) ∧
   qu w w'∧qyu w' u X∧∃M,M.Perm (qar ours xs).zipIdx∧Srt M∧X=its M:=by
 obtain⟨va,vn,vc,rfl,h3⟩:∃a n c,v = .slice a n c∧n=xs.length:=by
  rcases hv with ⟨_,_,rfl,rfl⟩ | ⟨g,off,cap,rfl,_⟩
  ·exact⟨_,_,_,rfl,rfl⟩
  ·exact⟨_,_,_,rfl,rfl⟩
 go_enter Tryz.func121,Tryz.ntmps121
 go_upto_region 1 with fail
 obtain⟨H,Y⟩:∃H:World,H=(w.alloc (.cells #[.int .u64 l,.int .u64 r] 59)).alloc (.cells #[.int .u64 0,.int .u64 0,.slice none 0 0] 201):=⟨_,rfl⟩
 have W:H.heap.size=w.heap.size+2:=by rw[Y];simp
 have nA:qu w H:=by rw[Y];exact((Upd.refl _ _).alloc _).alloc _
 have kA:H.heap[w.heap.size]? = some (.cells #[.int .u64 l,.int .u64 r] 59 (0,0)):=by rw[Y];exact qq (qh _ _) _
 have rA:H.heap[w.heap.size+1]? = some (.cells #[.int .u64 0,.int .u64 0,.slice none 0 0] 201 (0,0)):=by
  rw[Y];have:=qh (w.alloc (.cells #[.int .u64 l,.int .u64 r] 59)) (.cells #[.int .u64 0,.int .u64 0,.slice none 0 0] 201);simpa using this
 rw[←Y]
 clear Y
 have c1:H.cell? ⟨w.heap.size,0,none⟩=some (.int .u64 l):=qg kA 0
 have c2:H.cell? ⟨w.heap.size,1,none⟩=some (.int .u64 r):=qg kA 1
 have f4:H.drew.cell? ⟨w.heap.size,0,none⟩=some (.int .u64 l):=c1
 have f5:H.drew.cell? ⟨w.heap.size,1,none⟩=some (.int .u64 r):=c2
 go_cut [7,8] from 15 to 18 (fun p q wx=>∃b1 b2:Nat,p = .pointer (some ⟨b1,0,none⟩)∧q = .pointer (some ⟨b2,0,none⟩)∧b1≠b2∧w.heap.size+2≤b1∧w.heap.size+2≤b2 ∧
  wx.heap[b1]? = some (.cells #[.int .u64 l] 22 (0,0))∧wx.heap[b2]? = some (.cells #[.int .u64 r] 22 (0,0))∧qu H wx)
 case first =>
  go_region
  ·go_wp2;go_meet
   case rel =>
    first
    | exact⟨w.heap.size+2,w.heap.size+2+1,rfl,rfl,by omega,by omega,by omega,(qcs H _ _ _ W).1,(qcs H _ _ _ W).2.1,(qcs H _ _ _ W).2.2⟩
    | exact⟨w.heap.size+2+1,w.heap.size+2,rfl,rfl,by omega,by omega,by omega,(qcs H _ _ _ W).2.1,(qcs H _ _ _ W).1,(qcs H _ _ _ W).2.2⟩
  ·go_wp2;go_meet
   case rel =>
    first
    | exact⟨w.heap.size+2,w.heap.size+2+1,rfl,rfl,by omega,by omega,by omega,(qcs H _ _ _ W).1,(qcs H _ _ _ W).2.1,(qcs H _ _ _ W).2.2⟩
    | exact⟨w.heap.size+2+1,w.heap.size+2,rfl,rfl,by omega,by omega,by omega,(qcs H _ _ _ W).2.1,(qcs H _ _ _ W).1,(qcs H _ _ _ W).2.2⟩
 case rest =>
  obtain⟨b1,b2,rfl,rfl,c0,g1,g2,h1,I,nB⟩:=hcut;obtain⟨wB,rfl⟩:∃wB:World,wB=wc:=⟨_,rfl⟩;have rB:=nB.old rA (fun h=>h);have nW:=nA.trans nB;have Z:=qb g1;have a6:=qb g2;have f1:=qb hv;have f0:=qb hG;have sB:=nB.size;rw[W] at sB;have c8:=qb sB;have F:=qb (And.intro (zr h1) (And.intro (zr I) (zr rB)));clear c1 c2 f4 f5 kA rA hv hG W nA nB g1 g2 sB;go_wp2_with fail
  go_loopw [10,22] (fun sv iv wr=>∃(n:Nat),iv = .int .i64 (n:Int)∧n≤xs.length∧(∃a k c,sv = .slice a k c)∧Hid (wr.ownsRow wB.heap.size 254 36 sv (qar ours (xs.take n)).length ((qar ours (xs.take n)).flatMap zi)) ∧
   wr.heap[b1]? = some (.cells #[.int .u64 (qa7 ours l r (xs.take n)).1] 22 (0,0))∧wr.heap[b2]? = some (.cells #[.int .u64 (qa7 ours l r (xs.take n)).2] 22 (0,0)) ∧
   wr.heap[w.heap.size+1]? = some (.cells #[.int .u64 0,.int .u64 0,.slice none 0 0] 201 (0,0))∧qu w wr∧wB.heap.size≤wr.heap.size) (fun _ iv _=>xs.length-(intOf iv).toNat)
  case atStart=>exact⟨0,rfl,Nat.zero_le _,⟨_,_,_,rfl⟩,qb (by rw[List.take_zero];exact World.ownsRow_nil _ _ _ _),by rw[List.take_zero];exact h1,by rw[List.take_zero];exact I,rB,nW,Nat.le_refl _⟩
  case round =>
   obtain⟨n,rfl,hn,⟨sa,sk,sc,rfl⟩,HO,k1,k2,kr,nr,h0⟩:=hrel;clear h1 I rB nW;by_cases d4:n<xs.length
   ·obtain⟨x,hx⟩:∃x,xs[n]? = some x:=⟨_,List.getElem?_eq_getElem d4⟩;rcases (qa f1).new nr with ⟨_,_,e,e2⟩ | ⟨g,off,cap,e,hh⟩
    ·rw[e2] at d4;simp at d4
    ·obtain⟨rfl,_,rfl⟩:va=some ⟨g,off,none⟩∧xs.length=xs.length∧vc=cap:=by cases e;exact⟨rfl,rfl,rfl⟩
     have c7:=hh.row hx;have g9:(n:Int)<(xs.length:Int):=by omega
     have e8:stOk (wr.alloc (.cells #[.int .u64 0,.int .u64 0,.int .u8 0,.int .u8 0,.int .u8 0,.int .u8 0,.int .u8 0,.int .u8 0,.int .u8 0,.int .u8 0,.int .u8 0,.int .u8 0,.int .u8 0,.int .u8 0,.int .u8 0,.int .u8 0,.int .u8 0,.int .u8 0,.int .u8 0,.int .u8 0,.int .u8 0,.int .u8 0,.int .u8 0,.int .u8 0,.int .u8 0,.int .u8 0,.int .u8 0,.int .u8 0,.int .u8 0,.int .u8 0,.int .u8 0,.int .u8 0,.int .u8 0,.int .u8 0,.int .i64 0,.bool false,.int .i64 0,.bool false] 69)) wr.heap.size 0 38 (qk x).toArray=true:=qdf (qh _ _) (by decide) (by rw[List.size_toArray,qbb]) (by rw[List.all_toArray,List.all_eq_true];exact qef x);have a8:=qky wr #[.int .u64 0,.int .u64 0,.int .u8 0,.int .u8 0,.int .u8 0,.int .u8 0,.int .u8 0,.int .u8 0,.int .u8 0,.int .u8 0,.int .u8 0,.int .u8 0,.int .u8 0,.int .u8 0,.int .u8 0,.int .u8 0,.int .u8 0,.int .u8 0,.int .u8 0,.int .u8 0,.int .u8 0,.int .u8 0,.int .u8 0,.int .u8 0,.int .u8 0,.int .u8 0,.int .u8 0,.int .u8 0,.int .u8 0,.int .u8 0,.int .u8 0,.int .u8 0,.int .u8 0,.int .u8 0,.int .i64 0,.bool false,.int .i64 0,.bool false] 69 (qk x) (by rw[qbb];rfl);have v0:=q6p x;have d7:=qez x;have d8:=qe0 x;have v37:=qnk x;have vh:((qk x).toArray).extract 0 35=(qm x.h).toArray:=by
      apply Array.ext';simp[qk,List.take_append_of_le_length,qbh,List.extract_eq_take_drop]
     have N:=qbb x;generalize qk x=C at c7 e8 a8 v0 d7 d8 v37 vh N;go_upto_region 7 with fail;obtain⟨c6,nC⟩:=a8;generalize (wr.alloc (.cells #[.int .u64 0,.int .u64 0,.int .u8 0,.int .u8 0,.int .u8 0,.int .u8 0,.int .u8 0,.int .u8 0,.int .u8 0,.int .u8 0,.int .u8 0,.int .u8 0,.int .u8 0,.int .u8 0,.int .u8 0,.int .u8 0,.int .u8 0,.int .u8 0,.int .u8 0,.int .u8 0,.int .u8 0,.int .u8 0,.int .u8 0,.int .u8 0,.int .u8 0,.int .u8 0,.int .u8 0,.int .u8 0,.int .u8 0,.int .u8 0,.int .u8 0,.int .u8 0,.int .u8 0,.int .u8 0,.int .i64 0,.bool false,.int .i64 0,.bool false] 69)).setCells wr.heap.size 0 C=wC at c6 nC ⊢;have f7:C.take 38=C:=List.take_of_length_le (by omega);have e7:zj wC wr.heap.size 0 38=some C.toArray:=by rw[qbx c6 0 38 (by simp[N])];simp[f7]
     have e1:Spans wC:=(qa f0).new (nr.trans nC);have d0:C.toArray[35]? = some (.bool x.own):=by rw[List.getElem?_toArray];exact d7
     have e0:C.toArray[36]? = some (.int .i64 x.state):=by rw[List.getElem?_toArray];exact d8
     clear e8 c7;go_wp2_with fail;refine(q2m ours x.own x.state C.toArray wC e1 d0 e0).mono ?_;rintro e w1 ⟨rfl,n1⟩;have a7:=n1.old c6 (fun h=>h);have s0:w1.cell? ⟨wr.heap.size,1,none⟩=some (.int .u64 x.h.amount):=by rw[qg a7,List.getElem?_toArray];exact v0
     have g7:w1.cell? ⟨wr.heap.size,35,none⟩=some (.bool x.own):=by rw[qg a7];exact d0
     have b7:w1.cell? ⟨wr.heap.size,37,none⟩=some (.bool x.paid):=by rw[qg a7,List.getElem?_toArray];exact v37
     have e9:zj w1 wr.heap.size 0 35=some (qm x.h).toArray:=by rw[qbx a7 0 35 (by simp[N])];rw[Nat.zero_add,vh]
     have S:=nC.trans n1;have j1:=S.old k1 (fun h=>h);have j2:=S.old k2 (fun h=>h);have jr:=S.old kr (fun h=>h);have e3:w1.ownsRow wB.heap.size 254 36 (.slice sa sk sc) (qar ours (xs.take n)).length ((qar ours (xs.take n)).flatMap zi):=q7e (qa HO) S;have J:=qb e3;have b8:=qb (And.intro (show w.heap.size+1≠b1 by have:=qa Z;omega) (show w.heap.size+1≠b2 by have:=qa a6;omega));have K:=qb (S.size);have b6:=nr.trans S;clear e3 e1 d0 e0 v0 d7 d8 v37 vh e7 c6 nC a7 n1 S k1 k2 kr HO hh nr;cases m:qm1 ours x.own x.state with
     | true =>
      obtain⟨i9,z9,hi,hz,f8,f9,g0⟩:=q1l;have ht:qar ours (xs.take (n+1))=qar ours (xs.take n)++[⟨x.own==ours,x.h⟩]:=by
       rw[List.take_add_one,hx];simp[qar,List.filter_append,m]
      have V:qa7 ours l r (xs.take (n+1))=qa7 ours l r (xs.take n):=by
       rw[List.take_add_one,hx];simp[qa7,qfg,m]
      have HT:=qb ht;have U:=qb V;clear ht V m;have g8:=qbh x.h;have e5:(qar ours (xs.take n)).length≤n:=by
       unfold qar;rw[List.length_map];exact Nat.le_trans (List.length_filter_le _ _) (by rw[List.length_take];omega)
      have d9:=qb e5;clear e5;go_wp2_with (at_builtin;refine wpList_append_own _ rfl (.tmp 41) (.tmp 49) 199 rfl wB.heap.size 254 i9 _ 36 64 Tryz.underlying199 hi hz f8 f9 g0 (by decide) _ _ _ rfl ((qa J).alloc _) ⟨w1.heap.size,0,none⟩ 1 1 (zi ⟨x.own==ours,x.h⟩) rfl (qcc _) ?c1 (qop _) ?c3 ?c4 ?c5 ?_)
      case c1 =>
       intro j u hj;have e4:(⟨w1.heap.size,0,none⟩:Addr).add j=⟨w1.heap.size,j,none⟩:=by unfold Addr.add;split<;>simp_all
       rw[e4,qg (qh _ _)];simpa [zi] using hj
      case c3=>have:=qa d9;unfold maxLen;omega
      case c4=>have:=qa d9;omega
      case c5=>have:=qa K;simp;omega
      intro v' w5 R z _;have g3:=(z.block b1 (by have:=qa F;have:=qa K;simp;omega) (by intro h;have:=(qa J).lt _ h.symm;have:=qa F;omega)).trans (qq j1 _);have g4:=(z.block b2 (by have:=qa F;have:=qa K;simp;omega) (by intro h;have:=(qa J).lt _ h.symm;have:=qa F;omega)).trans (qq j2 _);have g5:=(z.block (w.heap.size+1) (by have:=qa F;have:=qa K;simp;omega) (by intro h;have:=(qa J).lt _ h.symm;have:=qa F;omega)).trans (qq jr _);have g6:qu w w5:=(b6.alloc _).grown z (fun k h hk=>by have:=(qa J).lt k h;have:=qa c8;omega);have f3:=qb z.size;obtain⟨h4,h6,h5,rfl⟩:=qly R;have f2:=qb R;clear R z s0 g7 b7 e9 j1 j2 jr;go_wp2;go_roundw
      case rel =>
       refine⟨n+1,by go_num,by omega,⟨_,_,_,rfl⟩,qb ?_,?_,?_,g5,g6,by have:=qa f3;have:=qa K;simp at *;omega⟩
       ·rw[qa HT,List.length_append,List.flatMap_append];simpa using qa f2
       ·rw[qa U];exact g3
       ·rw[qa U];exact g4
      case measure=>simp[intOf];omega
     | false =>
      have ht:qar ours (xs.take (n+1))=qar ours (xs.take n):=by
       rw[List.take_add_one,hx];simp[qar,List.filter_append,m]
      have O:True:=trivial;cases hg:qku ours x.own x.state<;>cases hp:x.paid
      ·have V:qa7 ours l r (xs.take (n+1))=qe6 (x.own) x.h.amount (qa7 ours l r (xs.take n)):=by
        rw[List.take_add_one,hx];simp[qa7,qfg,m,hg,hp]
       have HT:=qb ht;have U:=qb V;have c9:=qb O;rw[hp] at b7;clear ht V O m hg;go_wp2_with fail;refine(qks (x.own) x.h.amount b1 b2 c0 22 _ _ _ j1 j2).mono ?_;rintro e L ⟨rfl,E,m1,m2⟩;have P:=qb (And.intro m1 m2);clear m1 m2;go_wp2;go_roundw
       case rel =>
        obtain⟨b3,b4,b5⟩:=qa F;obtain⟨d5,d6⟩:=qa b8;have d1:=qa Z;have d2:=qa a6;refine⟨n+1,by go_num,by omega,⟨_,_,_,rfl⟩,qb ?_,?_,?_,E.old jr (by omega),b6.then E (fun i h1 I=>by omega),by have:=E.size;have:=qa K;omega⟩
        ·rw[qa HT];exact qk6 (qa J) E (fun k h1 I=>by omega)
        ·rw[qa U];exact(qa P).1
        ·rw[qa U];exact(qa P).2
       case measure=>simp[intOf];omega
      ·have V:qa7 ours l r (xs.take (n+1))=qe6 (x.own) x.h.amount (qa7 ours l r (xs.take n)):=by
        rw[List.take_add_one,hx];simp[qa7,qfg,m,hg,hp]
       have HT:=qb ht;have U:=qb V;have c9:=qb O;rw[hp] at b7;clear ht V O m hg;go_wp2_with fail;refine(qks (x.own) x.h.amount b1 b2 c0 22 _ _ _ j1 j2).mono ?_;rintro e L ⟨rfl,E,m1,m2⟩;have P:=qb (And.intro m1 m2);clear m1 m2;go_wp2;go_roundw
       case rel =>
        obtain⟨b3,b4,b5⟩:=qa F;obtain⟨d5,d6⟩:=qa b8;have d1:=qa Z;have d2:=qa a6;refine⟨n+1,by go_num,by omega,⟨_,_,_,rfl⟩,qb ?_,?_,?_,E.old jr (by omega),b6.then E (fun i h1 I=>by omega),by have:=E.size;have:=qa K;omega⟩
        ·rw[qa HT];exact qk6 (qa J) E (fun k h1 I=>by omega)
        ·rw[qa U];exact(qa P).1
        ·rw[qa U];exact(qa P).2
       case measure=>simp[intOf];omega
      ·have V:qa7 ours l r (xs.take (n+1))=qe6 (x.own) x.h.amount (qa7 ours l r (xs.take n)):=by
        rw[List.take_add_one,hx];simp[qa7,qfg,m,hg,hp]
       have HT:=qb ht;have U:=qb V;have c9:=qb O;rw[hp] at b7;clear ht V O m hg;go_wp2_with fail;refine(qks (x.own) x.h.amount b1 b2 c0 22 _ _ _ j1 j2).mono ?_;rintro e L ⟨rfl,E,m1,m2⟩;have P:=qb (And.intro m1 m2);clear m1 m2;go_wp2;go_roundw
       case rel =>
        obtain⟨b3,b4,b5⟩:=qa F;obtain⟨d5,d6⟩:=qa b8;have d1:=qa Z;have d2:=qa a6;refine⟨n+1,by go_num,by omega,⟨_,_,_,rfl⟩,qb ?_,?_,?_,E.old jr (by omega),b6.then E (fun i h1 I=>by omega),by have:=E.size;have:=qa K;omega⟩
        ·rw[qa HT];exact qk6 (qa J) E (fun k h1 I=>by omega)
        ·rw[qa U];exact(qa P).1
        ·rw[qa U];exact(qa P).2
       case measure=>simp[intOf];omega
      ·have V:qa7 ours l r (xs.take (n+1))=qe6 (!x.own) x.h.amount (qa7 ours l r (xs.take n)):=by
        rw[List.take_add_one,hx];simp[qa7,qfg,m,hg,hp]
       have HT:=qb ht;have U:=qb V;have c9:=qb O;rw[hp] at b7;clear ht V O m hg;go_wp2_with fail;refine(qks (!x.own) x.h.amount b1 b2 c0 22 _ _ _ j1 j2).mono ?_;rintro e L ⟨rfl,E,m1,m2⟩;have P:=qb (And.intro m1 m2);clear m1 m2;go_wp2;go_roundw
       case rel =>
        obtain⟨b3,b4,b5⟩:=qa F;obtain⟨d5,d6⟩:=qa b8;have d1:=qa Z;have d2:=qa a6;refine⟨n+1,by go_num,by omega,⟨_,_,_,rfl⟩,qb ?_,?_,?_,E.old jr (by omega),b6.then E (fun i h1 I=>by omega),by have:=E.size;have:=qa K;omega⟩
        ·rw[qa HT];exact qk6 (qa J) E (fun k h1 I=>by omega)
        ·rw[qa U];exact(qa P).1
        ·rw[qa U];exact(qa P).2
       case measure=>simp[intOf];omega
   ·obtain rfl:n=xs.length:=by omega
    rw[List.take_length] at HO k1 k2;have N:(qar ours xs).length≤19:=by
     unfold qar;rw[List.length_map];exact Nat.le_trans (List.length_filter_le _ _) hl
    obtain⟨_,e6⟩:=qsk (qa HO);clear HO;generalize hX:qar ours xs=X at N e6;have HX:=qb hX;generalize hP:qa7 ours l r xs=p at k1 k2;have b9:=qb hP;clear hX hP;rcases e6 with ⟨e,e2⟩ | ⟨g,cap,e,f6,hh⟩
    ·cases e;subst e2;cases ours
     ·go_wp2_with fail;refine(qih _).mono ?_;rintro e L ⟨rfl,q2⟩;have c1:L.cell? ⟨b1,0,none⟩=some (.int .u64 p.1):=qg (q2.old k1) 0;have c2:L.cell? ⟨b2,0,none⟩=some (.int .u64 p.2):=qg (q2.old k2) 0;have T:qu w L:=nr.then (q2.upd (fun _=>False)) (fun _ _ h=>h.elim);have f:=q2.old kr;have r0:=qg f 0;have r1:=qg f 1;have r2:=qg f 2;have z0:=qo f 0;have z1:=qo f 1;have z2:=qo f 2;simp at r0 r1 r2;go_wp2_with fail;refine bodyPost_ret (results_cell_row rfl _ _ (w.heap.size+1) _ _ _ _ rfl (qjk _ _ _ f) Tryz.underlying201 rfl Tryz.infoView) rfl ?_;exact⟨_,by rw[qa b9],qjl T (by omega) _ _ _,[],.inl ⟨_,_,rfl,rfl⟩,[],by rw[qa HX];exact List.Perm.refl _,List.Pairwise.nil,rfl⟩
     ·go_wp2_with fail;refine(qih _).mono ?_;rintro e L ⟨rfl,q2⟩;have c1:L.cell? ⟨b1,0,none⟩=some (.int .u64 p.1):=qg (q2.old k1) 0;have c2:L.cell? ⟨b2,0,none⟩=some (.int .u64 p.2):=qg (q2.old k2) 0;have T:qu w L:=nr.then (q2.upd (fun _=>False)) (fun _ _ h=>h.elim);have f:=q2.old kr;have r0:=qg f 0;have r1:=qg f 1;have r2:=qg f 2;have z0:=qo f 0;have z1:=qo f 1;have z2:=qo f 2;simp at r0 r1 r2;go_wp2_with fail;refine bodyPost_ret (results_cell_row rfl _ _ (w.heap.size+1) _ _ _ _ rfl (qjk _ _ _ f) Tryz.underlying201 rfl Tryz.infoView) rfl ?_;exact⟨_,by rw[qa b9],qjl T (by omega) _ _ _,[],.inl ⟨_,_,rfl,rfl⟩,[],by rw[qa HX];exact List.Perm.refl _,List.Pairwise.nil,rfl⟩
    ·cases e;cases ours
     ·go_wp2_with fail;refine(qi8 g 0 _ X.length X rfl (by omega) _ hh).mono ?_;rintro e L ⟨rfl,E,M,p2,s2,I⟩;have P:=qb (And.intro p2 (And.intro s2 I));clear p2 s2 I;obtain⟨b3,b4,b5⟩:=qa F;have c1:L.cell? ⟨b1,0,none⟩=some (.int .u64 p.1):=qg (E.old k1 (by omega)) 0;have c2:L.cell? ⟨b2,0,none⟩=some (.int .u64 p.2):=qg (E.old k2 (by omega)) 0;have T:qu w L:=nr.then E (fun i hi e=>by have:=qa c8;omega);have f:=E.old kr (by omega);have r0:=qg f 0;have r1:=qg f 1;have r2:=qg f 2;have z0:=qo f 0;have z1:=qo f 1;have z2:=qo f 2;simp at r0 r1 r2;go_wp2_with fail;refine bodyPost_ret (results_cell_row rfl _ _ (w.heap.size+1) _ _ _ _ rfl (qjk _ _ _ f) Tryz.underlying201 rfl Tryz.infoView) rfl ?_;obtain⟨p2,s2,I⟩:=qa P;have d3:(its M).length=X.length:=by have:=p2.length_eq;simpa using this
      exact⟨_,by rw[qa b9],qjl T (by omega) _ _ _,its M,.inr ⟨g,_,by rw[d3],I.upd (qlr _ _ _ _ _) (by omega)⟩,M,by rw[qa HX];exact p2,s2,rfl⟩
     ·go_wp2_with fail;refine(qi8 g 0 _ X.length X rfl (by omega) _ hh).mono ?_;rintro e L ⟨rfl,E,M,p2,s2,I⟩;have P:=qb (And.intro p2 (And.intro s2 I));clear p2 s2 I;obtain⟨b3,b4,b5⟩:=qa F;have c1:L.cell? ⟨b1,0,none⟩=some (.int .u64 p.1):=qg (E.old k1 (by omega)) 0;have c2:L.cell? ⟨b2,0,none⟩=some (.int .u64 p.2):=qg (E.old k2 (by omega)) 0;have T:qu w L:=nr.then E (fun i hi e=>by have:=qa c8;omega);have f:=E.old kr (by omega);have r0:=qg f 0;have r1:=qg f 1;have r2:=qg f 2;have z0:=qo f 0;have z1:=qo f 1;have z2:=qo f 2;simp at r0 r1 r2;go_wp2_with fail;refine bodyPost_ret (results_cell_row rfl _ _ (w.heap.size+1) _ _ _ _ rfl (qjk _ _ _ f) Tryz.underlying201 rfl Tryz.infoView) rfl ?_;obtain⟨p2,s2,I⟩:=qa P;have d3:(its M).length=X.length:=by have:=p2.length_eq;simpa using this
      exact⟨_,by rw[qa b9],qjl T (by omega) _ _ _,its M,.inr ⟨g,_,by rw[d3],I.upd (qlr _ _ _ _ _) (by omega)⟩,M,by rw[qa HX];exact p2,s2,rfl⟩
end Go.Proofs.YtfmkdoachjgjbaaGreatDoor
