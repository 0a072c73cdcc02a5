/-
  Lives as flat rows of cells; slices.Clone (all of it stands in XLv now).
-/
import Derived.Test.YthnohmjbbeahmaaGreatDoorVw5
import Derived.Test.YthnohmjbbeahmaaGreatDoorMaa
import Derived.Test.YthnohmjbbeahmaaGreatDoorCh4
import Derived.Test.YthnohmjbbeahmaaGreatDoorMaf
set_option linter.unusedVariables false
set_option linter.unusedSimpArgs false
namespace Go.Proofs.YthnohmjbbeahmaaGreatDoor
end Go.Proofs.YthnohmjbbeahmaaGreatDoor
namespace Go.Proofs.YthnohmjbbeahmaaGreatDoor
open Go.RowKit Go.Sort
theorem zay(x:Live)(s:Int):ql {x with state:=s} = (ql x).set 36 (.int .i64 s):=by
 unfold ql;rw[List.set_append_right _ _ (by rw[qbh];omega),qbh];rfl
theorem qhe.setState{w:World}{g off:Nat}{X:List Live}(h:qhe w g off X){n:Nat}{x:Live}(v:X[n]? = some x)(s:Int) :
  qhe (w.setCell ⟨g,off+n*38+36,none⟩ (.int .i64 s)) g off (X.set n {x with state:=s}):=by
 obtain⟨C,T,z,E,o⟩:=h
 refine⟨_,T,z7 z _ _,by rw[Array.size_setIfInBounds,List.length_set];exact E,fun i y l j q=> ?_⟩
 have t:=(List.getElem?_eq_some_iff.1 v).1
 have D:off+n*38+38≤C.size:=by have:=Nat.mul_le_mul_right 38 (show n+1≤X.length from t);omega
 rw[Array.getElem?_setIfInBounds]
 rw[List.getElem?_set] at l
 by_cases e:n=i
 ·subst e;rw[if_pos rfl,if_pos t,Option.some.injEq] at l;subst l;rw[zay,List.getElem?_set];by_cases m:36=j
  ·subst m;rw[if_pos rfl,if_pos (by omega),if_pos rfl,if_pos (by rw[qa5];omega)]
  ·rw[if_neg (by omega),if_neg m];exact o n x v j q
 ·rw[if_neg e] at l;rw[if_neg ?_]
  ·exact o i y l j q
  ·rcases Nat.lt_or_gt_of_ne e with h | h
   ·have:=Nat.mul_le_mul_right 38 (show n+1≤i from h);omega
   ·have:=Nat.mul_le_mul_right 38 (show i+1≤n from h);omega
attribute [local go_sem ↓ high] qdf qeb
attribute [local go_sem] qh5 qj8
def aft(ev:Int)(x:Live):Live:= {x with state:=qw x.state x.own ev}
def qo(ev:Int)(xs:List Live):List Live:=xs.map (aft ev)
set_option maxRecDepth 100000 in
set_option maxHeartbeats 4000000 in
theorem qqy(v:Value)(xs:List Live)(ev:Int)(hl:xs.length≤1048576)(w:World)(hG:Glob w)(hv:qio w v xs) :
  Calls Tryz.prog 72 #[v,.int .i64 ev] w fun e w'=>∃u,e = .returned u∧qu w w'∧qko w.heap.size w' u (qo ev xs):=by
 have a5:∃a k c,v = .slice a k c:=by
  rcases hv with ⟨_,_,rfl,_⟩ | ⟨g,off,cap,rfl,_⟩
  ·exact⟨_,_,_,rfl⟩
  ·exact⟨_,_,_,rfl⟩
 obtain⟨va,vk,vc,rfl⟩:=a5
 go_enter Tryz.func72,Tryz.ntmps72
 go_wp2_with fail
 refine(q5n _ xs hl w hv).mono ?_
 rintro e w1 ⟨u,rfl,n1,⟨ua,uc,rfl,rfl⟩ | ⟨g,cap,rfl,hg,Z⟩⟩
 ·obtain⟨L,rfl⟩:∃L:World,L=w1:=⟨_,rfl⟩;go_wp2_with fail
  go_loopw [12] (fun P wr=>P = .int .i64 0∧wr=L) (fun _ _=>0)
  case atStart=>exact⟨rfl,rfl⟩
  case round =>
   obtain⟨rfl,rfl⟩:=hrel;go_wp2
   first | go_ret2 | go_ret
   exact⟨_,rfl,n1,.inl ⟨_,_,rfl,rfl⟩⟩
 ·have a8:=hG.new n1;obtain⟨L,rfl⟩:∃L:World,L=w1:=⟨_,rfl⟩;go_wp2_with fail
  go_loopw [12] (fun P wr=>∃n:Nat,P = .int .i64 (n:Int)∧n≤xs.length∧Hid (qhe wr g 0 (qo ev (xs.take n)++xs.drop n))∧qu w wr) (fun P _=>xs.length-(intOf P).toNat)
  case atStart=>exact⟨0,rfl,Nat.zero_le _,qb (by simpa [qo] using Z),n1⟩
  case round =>
   obtain⟨n,rfl,hn,X,nr⟩:=hrel;by_cases I:n<xs.length
   ·obtain⟨x,hx⟩:∃x,xs[n]? = some x:=⟨_,List.getElem?_eq_getElem I⟩;have E:(qo ev (xs.take n)++xs.drop n)[n]? = some x:=by
     have H:(qo ev (xs.take n)).length=n:=by simp[qo];omega
     rw[List.getElem?_append_right (by omega),H,Nat.sub_self,List.getElem?_drop,Nat.add_zero];exact hx
    have z:=qa X;have o:=z.row E;rw[Nat.zero_add] at o;have i:=z.setState E (qw x.state x.own ev);obtain⟨CC,TT,l,K,t⟩:=id z;have a9:(n:Int)<(xs.length:Int):=by omega
    have O:stOk (wr.alloc (.cells #[.int .u64 0,.int .u64 0,.int .u8 0,.int .u8 0,.int .u8 0,.int .u8 0,.int .u8 0,.int .u8 0,.int .u8 0,.int .u8 0,.int .u8 0,.int .u8 0,.int .u8 0,.int .u8 0,.int .u8 0,.int .u8 0,.int .u8 0,.int .u8 0,.int .u8 0,.int .u8 0,.int .u8 0,.int .u8 0,.int .u8 0,.int .u8 0,.int .u8 0,.int .u8 0,.int .u8 0,.int .u8 0,.int .u8 0,.int .u8 0,.int .u8 0,.int .u8 0,.int .u8 0,.int .u8 0,.int .i64 0,.bool false,.int .i64 0,.bool false] 56)) wr.heap.size 0 38 (ql x).toArray=true:=qf3 (qi _ _) (by decide) (by rw[List.size_toArray,qa5]) (by rw[List.all_toArray,List.all_eq_true];exact qet x);have m:=qnl wr #[.int .u64 0,.int .u64 0,.int .u8 0,.int .u8 0,.int .u8 0,.int .u8 0,.int .u8 0,.int .u8 0,.int .u8 0,.int .u8 0,.int .u8 0,.int .u8 0,.int .u8 0,.int .u8 0,.int .u8 0,.int .u8 0,.int .u8 0,.int .u8 0,.int .u8 0,.int .u8 0,.int .u8 0,.int .u8 0,.int .u8 0,.int .u8 0,.int .u8 0,.int .u8 0,.int .u8 0,.int .u8 0,.int .u8 0,.int .u8 0,.int .u8 0,.int .u8 0,.int .u8 0,.int .u8 0,.int .i64 0,.bool false,.int .i64 0,.bool false] 56 (ql x) (by rw[qa5];rfl);have T:=qh6 x;have U:=qgm x;have N:=qa5 x;have HX:=qb hx;have F:=qb E;clear hx E i l K t z Z;generalize ql x=C at o O m T U N;go_upto_region 5 with fail;obtain⟨q,R⟩:=m;generalize (wr.alloc (.cells #[.int .u64 0,.int .u64 0,.int .u8 0,.int .u8 0,.int .u8 0,.int .u8 0,.int .u8 0,.int .u8 0,.int .u8 0,.int .u8 0,.int .u8 0,.int .u8 0,.int .u8 0,.int .u8 0,.int .u8 0,.int .u8 0,.int .u8 0,.int .u8 0,.int .u8 0,.int .u8 0,.int .u8 0,.int .u8 0,.int .u8 0,.int .u8 0,.int .u8 0,.int .u8 0,.int .u8 0,.int .u8 0,.int .u8 0,.int .u8 0,.int .u8 0,.int .u8 0,.int .u8 0,.int .u8 0,.int .i64 0,.bool false,.int .i64 0,.bool false] 56)).setCells wr.heap.size 0 C=W at q R ⊢
    have a6:W.cell? ⟨wr.heap.size,35,none⟩=some (.bool x.own):=by rw[qh q,List.getElem?_toArray];exact T
    have a7:W.cell? ⟨wr.heap.size,36,none⟩=some (.int .i64 x.state):=by rw[qh q,List.getElem?_toArray];exact U
    have Y:Glob W:=hG.new (nr.trans R);clear O o;go_wp2_with fail;refine(qzk x.state ev x.own W Y).mono ?_;rintro e V ⟨rfl,q2⟩;have D:qhe V g 0 (qo ev (xs.take n)++xs.drop n):=((qa X).upd R (fun h=>h)).upd (q2.upd (fun _=>False)) (fun h=>h);have i:=D.setState (qa F) (qw x.state x.own ev);have J:=D.row (qa F);obtain⟨CC,TT,l,K,t⟩:=id D;have b3:V.cell? ⟨g,n*38+36,none⟩=some (.int .i64 x.state):=by
     rw[qh l];have:=t n x (qa F) 36 (by decide);rw[Nat.zero_add] at this;rw[this,qgm]
    have b4:V.frozen? ⟨g,n*38+36,none⟩=false:=qv l _;rw[Nat.zero_add] at i;have M:=qb i;have n2:qu w V:=(nr.trans R).then (q2.upd (fun _=>False)) (fun _ _ h=>h.elim);clear i J l K t D a6 a7 q R;go_wp2;go_roundw
    case rel =>
     refine⟨n+1,by go_num,by omega,qb ?_,n2.setCell (fun h=>by have h1:g<w.heap.size:=h;omega) _⟩;have:=qa M;have e:(qo ev (xs.take n)++xs.drop n).set n {x with state:=qw x.state x.own ev} = qo ev (xs.take (n+1))++xs.drop (n+1):=by
      have H:(qo ev (xs.take n)).length=n:=by simp[qo];omega
      rw[List.set_append_right _ _ (by omega),H,Nat.sub_self,List.take_add_one,qa HX];have hd:xs.drop n=x::xs.drop (n+1):=by
       rw[List.drop_eq_getElem_cons I];congr 1;have:=qa HX;rw[List.getElem?_eq_getElem I] at this;exact Option.some.inj this
      rw[hd];simp[qo,aft]
     rwa [e] at this
    case measure=>simp[intOf];omega
   ·obtain rfl:n=xs.length:=by omega
    have hf:qhe wr g 0 (qo ev xs):=by have:=qa X;simpa using this
    have a4:(qo ev xs).length=xs.length:=by simp[qo]
    have HF:=qb hf;clear hf Z;go_wp2
    first | go_ret2 | go_ret
    exact⟨_,rfl,nr,.inr ⟨g,0,_,by rw[a4];rfl,hg,(qa HF).toL⟩⟩
end Go.Proofs.YthnohmjbbeahmaaGreatDoor
namespace Go.Proofs.YthnohmjbbeahmaaGreatDoor
open Go.RowKit
attribute [local go_sem ↓ high] qdf qeb qg0 qh1
attribute [local go_sem] qh5 qj8 qp9 qvs zb
def qbl(c:Ch)(x:Live):Ch:=if x.state=9 then c.give (x.own != x.paid) x.h.amount else c
def qa7(xs:List Live):List Live:=xs.filter fun x=> !(x.state==9)
def Ch.goOn(c:Ch)(ev:Int):Ch:= {(qo ev c.xs).foldl qbl c with xs:=qa7 (qo ev c.xs)}
theorem q18{xs:List Live}{i:Nat}{x:Live}(g:xs[i]? = some x):qa7 (xs.take (i+1))=qa7 (xs.take i)++(if x.state=9 then [] else [x]):=by
 unfold qa7;rw[List.take_add_one,g,List.filter_append];by_cases h:x.state=9<;>simp[h]
theorem q1x{xs:List Live}{i:Nat}{x:Live}(c:Ch)(g:xs[i]? = some x):(xs.take (i+1)).foldl qbl c=qbl ((xs.take i).foldl qbl c) x:=by
 rw[List.take_add_one,g,List.foldl_append];rfl
theorem q69{st:Int}(h : -9223372036854775808≤st∧st≤9223372036854775807)(own:Bool)(ev:Int) : -9223372036854775808≤qw st own ev∧qw st own ev≤9223372036854775807:=by
 unfold qw;split
 ·rename_i g;have:=g.1;unfold qow at this;simp at this;omega
 ·exact h
theorem q8l{x:Live}(h:LiveOk x)(ev:Int):LiveOk (aft ev x):=⟨h.h,q69 h.state _ _⟩
theorem ChP.newLive{L t:World}{g:Nat}{S:Nat→Prop}{c:Ch}{M nv J:Value}(h:ChP L g S c M nv J)(w0:World)(u:Upd (· = g) w0 L)(U:qu L t)(q:Value)(z:List Live)(R:∀y∈z,LiveOk y)(E:z.length≤1000000)(l:t.ownsRow w0.heap.size 56 38 q z.length (z.flatMap ql)) :
  ChP (t.setCell ⟨g,47,none⟩ q) g (Fr S w0 (t.setCell ⟨g,47,none⟩ q)) {c with xs:=z} q nv J:=by
 have C:=h.new U
 have I:Upd (· = g) t (t.setCell ⟨g,47,none⟩ q):=(Upd.refl _ _).set1 47 _
 have w:=z7 C.at_ 47 q
 rw[q0a c M nv J h.ok.s.seed z] at w
 have F:∀k,q.ownBlock=some k→w0.heap.size≤k:=by
  intro k i;rcases l.2 with ⟨e,_⟩ | ⟨g',cap,o,e,N,_⟩
  ·rw[e] at i;simp[Value.ownBlock] at i
  ·rw[e] at i;simp[Value.ownBlock] at i;omega
 have H:∀k,q.ownBlock=some k→k<t.heap.size:=fun k i=>by
  obtain⟨o,K⟩:=qai l k i;exact z6 K
 have m:t.ownsRow 0 56 38 q z.length (z.flatMap ql):=by
  refine⟨l.1,?_⟩;rcases l.2 with e | ⟨g',cap,o,e,N,r⟩
  ·exact .inl e
  ·exact .inr ⟨g',cap,o,e,Nat.zero_le _,r⟩
 have D:∀ {T:TypeId} {v:Value} {n:Nat} {xs:List Value},T≠106→t.ownsRow 0 T 38 v n xs→∀k,v.ownBlock=some k→k≠g:=by
  intro T v n xs O P k i e;obtain⟨o,K⟩:=qai P k i;exact qao K C.at_ O e
 have V:=I.size
 refine⟨w,⟨h.ok.s,h.ok.signed,h.ok.heard,h.ok.nextOwn,h.ok.nextTheirs,h.ok.loc,h.ok.rem,R,E,h.ok.shelf,h.ok.news,h.ok.last,h.ok.many⟩,?_,?_,?_,.inl h.inG,?_,fun k e=> .inl (h.inN k e),fun k e=> .inl (h.inA k e),h.sep,?_⟩
 ·exact zc m I (fun k i e=>D (by decide) m k i e)
 ·exact zc C.news I (fun k i e=>D (by decide) C.news k i e)
 ·exact zc C.last I (fun k i e=>D (by decide) C.last k i e)
 ·intro k i;have:=H k i;exact .inr ⟨F k i,by omega⟩
 ·rintro k (i | i)
  ·have:=C.lt k i;omega
  ·exact i.2
set_option maxRecDepth 100000 in
set_option maxHeartbeats 2000000 in
theorem qnd(g:Nat)(S:Nat→Prop)(c:Ch)(ev:Int)(w:World)(h:ChS w g S c)(hG:Glob w) :
  Calls Tryz.prog 59 #[.pointer (some ⟨g,0,none⟩),.int .i64 ev] w fun e w'=>e = .returned (.tuple #[])∧ChS w' g (Fr S w w') (c.goOn ev)∧Upd S w w':=by
 obtain⟨lv,nv,av,h⟩:=h
 have H:w.cell? ⟨g,47,none⟩=some lv:=h.toR.live
 have I:=qqy lv c.xs ev (by have:=h.ok.few;omega) w hG h.toI.lives
 obtain⟨i9,z9,b9,d2,e7,e4,e5,e6,d0⟩:=qjz
 have L:=qb h
 obtain⟨la,f1,d7⟩:=qap h.live
 rw[d7] at H I
 clear h
 go_enter Tryz.func59,Tryz.ntmps59
 go_wp2_with fail
 refine I.mono ?_
 rintro e w1 ⟨u,rfl,n1,hu⟩
 obtain⟨ua,f2,rfl,v⟩:=hu.row
 have a6:(qo ev c.xs).length≤1000000:=by have:=(qa L).ok.few;simp[qo];omega
 have a9:∀y∈qo ev c.xs,LiveOk y:=by
  intro y hy;obtain⟨x,hx,rfl⟩:=List.mem_map.1 hy;exact q8l ((qa L).ok.xs x hx) ev
 have Z:c.goOn ev = {(qo ev c.xs).foldl qbl c with xs:=qa7 (qo ev c.xs)} := rfl
 have b5:=qb Z
 have c6:=qb a9
 clear I hu H a9 Z
 generalize e1:qo ev c.xs=o at *
 clear e1
 have h1:=(qa L).new n1
 have e9:g<w.heap.size:=z6 (qa L).at_
 have g0:(o.length:Int)≤1000000:=by omega
 have c8:=qb h1
 have g3:=n1.size
 clear h1
 go_wp2_with fail
 go_loopw [4,6,14] (fun kv _ iv wr=>∃i:Nat,iv = .int .i64 (i:Int)∧i≤o.length∧wr.ownsRow w1.heap.size 56 38 kv (qa7 (o.take i)).length ((qa7 (o.take i)).flatMap ql)∧Hid (ChP wr g S ((o.take i).foldl qbl c) lv nv av)∧Upd (· = g) w1 wr) (fun _ _ iv _=>o.length-(intOf iv).toNat)
 case atStart=>exact⟨0,rfl,Nat.zero_le _,World.ownsRow_nil _ _ _ _,c8,Upd.refl _ _⟩
 case round =>
  obtain⟨i,rfl,hi,t,HC,nr⟩:=hrel;obtain⟨C,rfl⟩:∃C:World,C=wr:=⟨_,rfl⟩;obtain⟨ka,b3,d5⟩:=qap t;subst d5;by_cases d6:i<o.length
  ·obtain⟨x,D⟩:∃x,o[i]? = some x:=⟨_,List.getElem?_eq_getElem d6⟩;obtain⟨g',off,rfl,V,hh⟩:=v i x D;have a8:=(hh.upd nr (fun e=>by omega)).row D;have f9:(i:Int)<(o.length:Int):=by omega
   have d9:=qo3 C x;have K:=qov C x;have a4:=q18 D;have X:=q1x c D;have g1:(qa7 (o.take i)).length≤i:=by
    unfold qa7;refine Nat.le_trans (List.length_filter_le _ _) ?_;rw[List.length_take];omega
   have HO:=qb t;have HK:=qb a4;have HT:=qb X;clear a4 X D hh v t;go_upto_region 4 with fail;obtain⟨E,N⟩:=K;generalize (C.alloc (.cells (ql Live.zero).toArray 56)).setCells C.heap.size 0 (ql x)=wb at E N ⊢;have c7:wb.cell? ⟨C.heap.size,36,none⟩=some (.int .i64 x.state):=by rw[qh E,List.getElem?_toArray];exact qgm x
   have d8:=nr.size;have f8:w1.heap.size≤C.heap.size:=d8;have O:=qb ((qa HC).new N);have b4:=nr.then (N.mono (T:=fun _=>False) (fun _ _ h=>h)) (fun _ _ h=>h.elim);clear d9 a8;by_cases M:x.state=9
   ·have f3:wb.cell? ⟨C.heap.size,35,none⟩=some (.bool x.own):=by rw[qh E,List.getElem?_toArray];exact qh6 x
    have f4:wb.cell? ⟨C.heap.size,37,none⟩=some (.bool x.paid):=by rw[qh E,List.getElem?_toArray];exact qnm x
    have d1:wb.cell? ⟨C.heap.size,1,none⟩=some (.int .u64 x.h.amount):=by rw[qh E,List.getElem?_toArray];exact qwl x
    have Y:=fun(W:World) (q:Q wb W)=>qt7 g S _ lv nv av (x.own != x.paid) x.h.amount W ((qa O).upd (q.upd (fun _=>False)) (fun _ _ h=>h))
    have P:=qb Y;rw[M] at c7;clear Y E;go_wp2_with fail;refine(qa P _ (Q.refl _)).mono ?_;rintro e w2 ⟨rfl,a7,u2⟩;have J:qbl ((o.take i).foldl qbl c) x=((o.take i).foldl qbl c).give (x.own != x.paid) x.h.amount:=by unfold qbl;rw[if_pos M]
    have c0:=qb a7;have e8:=b4.trans u2;have b7:=qb (zc (zc (qa HO) N (fun _ _ h=>h)) u2 (fun k l e=>by
     have V:=(qa HO);rcases V.2 with ⟨e,_⟩ | ⟨g2,cap,R,U,e3,_⟩
     ·rw[e] at l;simp[Value.ownBlock] at l
     ·rw[U] at l;simp[Value.ownBlock] at l;omega))
    clear a7 P;go_wp2_with fail;go_roundw
    case rel =>
     refine⟨i+1,by go_num,by omega,?_,?_,e8⟩
     ·rw[qa HK,if_pos M,List.append_nil];exact qa b7
     ·rw[qa HT,J];exact c0
    case measure=>simp[intOf];omega
   ·have f6:(x.state==9)=false:=by simpa using M
    have g4:=qad E 38 (by rw[List.size_toArray,qa5]);have e0:=qa5 x;have HB:=qb E;have b8:=qb (zc (qa HO) N (fun _ _ h=>h));have f7:wb.heap.size=wb.heap.size:=rfl;have f0:=N.size;clear E;go_wp2_with (at_builtin;refine wpList_append_own _ rfl (.tmp 31) (.tmp 33) 51 rfl w1.heap.size 56 i9 _ 38 b9 Tryz.underlying51 d2 e7 e4 e5 e6 (by decide) _ _ _ rfl ((qa b8).alloc _) ⟨wb.heap.size,0,none⟩ 1 1 (ql x) rfl (by rw[e0]) ?c1 (qet x) ?c3 ?c4 ?c5 ?_)
    case c3=>unfold maxLen;omega
    case c4=>have:=Nat.mul_le_mul (show (qa7 (o.take i)).length+1≤1000000 by omega) d0;omega
    case c5=>omega
    intro v' w5 z m _;obtain⟨a5,k5,c5,rfl⟩:=qoy z;have hO:=qa HO;have c9:qu wb (wb.alloc (.cells (ql x).toArray 56)):=(Upd.refl _ _).alloc _;have n5:Upd (· = g) w1 w5:=(b4.alloc _).grown m (fun k l d3=>by
     rcases hO.2 with ⟨e,_⟩ | ⟨g2,cap,R,U,e3,_⟩
     ·rw[e] at l;simp[Value.ownBlock] at l
     ·rw[U] at l;simp[Value.ownBlock] at l;omega)
    have u5:Upd (fun k=>w1.heap.size≤k) (wb.alloc (.cells (ql x).toArray 56)) w5:=(Upd.refl _ _).grown m (fun k l d3=>by
     rcases hO.2 with ⟨e,_⟩ | ⟨g2,cap,R,U,e3,_⟩
     ·rw[e] at l;simp[Value.ownBlock] at l
     ·rw[U] at l;simp[Value.ownBlock] at l;omega)
    have c2:=qb (((qa O).new c9).upd u5 (fun k l e=>by have:=(qa L).lt k l;omega));have J:qbl ((o.take i).foldl qbl c) x=(o.take i).foldl qbl c:=by unfold qbl;rw[if_neg M]
    have b6:=qb z;clear z m HB;go_wp2_with fail;go_roundw
    case rel =>
     refine⟨i+1,by go_num,by omega,?_,?_,n5⟩
     ·rw[qa HK,if_neg M,List.length_append,List.flatMap_append];have:[x].flatMap ql=ql x:=by simp
      rw[this];exact qa b6
     ·rw[qa HT,J];exact c2
    case measure=>simp[intOf];omega
  ·obtain rfl:i=o.length:=by omega
   rw[List.take_length] at *
   have hP:=qa HC;have H:C.cell? ⟨g,47,none⟩=some lv:=hP.toR.live;have f5:C.frozen? ⟨g,47,none⟩=false:=qv hP.at_ 47;have d4:(qa7 o).length≤1000000:=Nat.le_trans (List.length_filter_le _ _) a6;have F:=hP.newLive w1 nr (Upd.refl _ _) _ (qa7 o) (fun y hy=>qa c6 y (List.mem_filter.1 hy).1) d4 t;have uF:Upd (· = g) C (C.setCell ⟨g,47,none⟩ (.slice ka (qa7 o).length b3)):=(Upd.refl _ _).set1 47 _;have HF:=qb F;have HU:=qb (nr.trans uF);clear F t uF v hP;go_wp2_with fail;go_end0;have hU:=qa HU;have hF:=qa HF;have h0:=qa L;rw[qa b5];refine⟨rfl,⟨_,_,_,hF.wider (fun k l=> ?_) (fun k l=> ?_)⟩,(n1.mono (fun _ _ h=>h.elim)).trans (hU.mono (fun k _ e=>by rw[e];exact h0.inG))⟩
   ·rcases l with l | l
    ·exact .inl l
    ·exact .inr ⟨by omega,l.2⟩
   ·rcases l with l | l
    ·exact hF.lt k (.inl l)
    ·exact l.2
end Go.Proofs.YthnohmjbbeahmaaGreatDoor
