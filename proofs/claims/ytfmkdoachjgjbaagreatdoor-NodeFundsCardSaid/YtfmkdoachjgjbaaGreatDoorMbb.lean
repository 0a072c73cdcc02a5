/-
  Lives as flat rows of cells; slices.Clone (all of it stands in XLv now).
-/
import Derived.Test.YtfmkdoachjgjbaaGreatDoorVw5
import Derived.Test.YtfmkdoachjgjbaaGreatDoorMaa
import Derived.Test.YtfmkdoachjgjbaaGreatDoorMai
import Derived.Test.YtfmkdoachjgjbaaGreatDoorMaj
import Derived.Test.YtfmkdoachjgjbaaGreatDoorProg
import Derived.RangeFuncNested
import Derived.RangeFuncBound
import Derived.RangeFuncCalls
import Derived.RangeFuncLeaves
import Derived.Shelf.Abstract
import Derived.Shelf.RegionOpen
import Derived.WalkKit
import Derived.OwnWalkIn
import Derived.TacticsInMore
import Derived.LoopNIn
import Derived.LoopIn
set_option maxRecDepth 100000
set_option maxHeartbeats 4000000
set_option linter.unusedVariables false
set_option linter.unusedSimpArgs false
namespace Go.Proofs.YtfmkdoachjgjbaaGreatDoor
section
end
section
open Go.RowKit Go.Sort
theorem q4n(x:Live)(s:Int):qm {x with state:=s} = (qm x).set 36 (.int .i64 s):=by
 unfold qm;rw[List.set_append_right _ _ (by rw[qba];omega),qba];rfl
theorem qdf.setState{w:World}{g off:Nat}{X:List Live}(h:qdf w g off X){n:Nat}{x:Live}(z:X[n]? = some x)(s:Int) :
  qdf (w.setCell ⟨g,off+n*38+36,none⟩ (.int .i64 s)) g off (X.set n {x with state:=s}):=by
 obtain⟨C,T,D,H,q⟩:=h
 refine⟨_,T,zq D _ _,by rw[Array.size_setIfInBounds,List.length_set];exact H,fun i y m j t=> ?_⟩
 have v:=(List.getElem?_eq_some_iff.1 z).1
 have E:off+n*38+38≤C.size:=by have:=Nat.mul_le_mul_right 38 (show n+1≤X.length from v);omega
 rw[Array.getElem?_setIfInBounds]
 rw[List.getElem?_set] at m
 by_cases e:n=i
 ·subst e;rw[if_pos rfl,if_pos v,Option.some.injEq] at m;subst m;rw[q4n,List.getElem?_set];by_cases o:36=j
  ·subst o;rw[if_pos rfl,if_pos (by omega),if_pos rfl,if_pos (by rw[qbb];omega)]
  ·rw[if_neg (by omega),if_neg o];exact q n x z j t
 ·rw[if_neg e] at m;rw[if_neg ?_]
  ·exact q i y m j t
  ·rcases Nat.lt_or_gt_of_ne e with h | h
   ·have:=Nat.mul_le_mul_right 38 (show n+1≤i from h);omega
   ·have:=Nat.mul_le_mul_right 38 (show i+1≤n from h);omega
attribute [local go_sem ↓ high] qa5 qbd
attribute [local go_sem] qc5 qdo
def aft(ev:Int)(x:Live):Live:= {x with state:=qb8 x.state x.own ev}
def qao(ev:Int)(xs:List Live):List Live:=xs.map (aft ev)
theorem qmw(v:Value)(xs:List Live)(ev:Int)(hl:xs.length≤1048576)(w:World)(hG:Glob w)(hv:qf0 w v xs) :
  Calls Tryz.prog 155 #[v,.int .i64 ev] w fun e w'=>∃u,e = .returned u∧qq w w'∧qhn w.heap.size w' u (qao ev xs):=by
 have a6:∃a k c,v = .slice a k c:=by
  rcases hv with ⟨_,_,rfl,_⟩ | ⟨g,off,cap,rfl,_⟩
  ·exact⟨_,_,_,rfl⟩
  ·exact⟨_,_,_,rfl⟩
 obtain⟨va,vk,vc,rfl⟩:=a6
 go_enter Tryz.func155,Tryz.ntmps155
 go_wp2_with fail
 refine(qpl _ xs hl w hv).mono ?_
 rintro e w1 ⟨u,rfl,n1,⟨ua,uc,rfl,rfl⟩ | ⟨g,cap,rfl,hg,hh⟩⟩
 ·obtain⟨N,rfl⟩:∃N:World,N=w1:=⟨_,rfl⟩;go_wp2_with fail
  go_loopw [12] (fun T wr=>T = .int .i64 0∧wr=N) (fun _ _=>0)
  case atStart=>exact⟨rfl,rfl⟩
  case round =>
   obtain⟨rfl,rfl⟩:=hrel;go_wp2
   first | go_ret2 | go_ret
   exact⟨_,rfl,n1,.inl ⟨_,_,rfl,rfl⟩⟩
 ·have b0:=hG.new n1;obtain⟨N,rfl⟩:∃N:World,N=w1:=⟨_,rfl⟩;go_wp2_with fail
  go_loopw [12] (fun T wr=>∃n:Nat,T = .int .i64 (n:Int)∧n≤xs.length∧Hid (qdf wr g 0 (qao ev (xs.take n)++xs.drop n))∧qq w wr) (fun T _=>xs.length-(intOf T).toNat)
  case atStart=>exact⟨0,rfl,Nat.zero_le _,qj (by simpa [qao] using hh),n1⟩
  case round =>
   obtain⟨n,rfl,hn,Z,nr⟩:=hrel;by_cases J:n<xs.length
   ·obtain⟨x,hx⟩:∃x,xs[n]? = some x:=⟨_,List.getElem?_eq_getElem J⟩;have E:(qao ev (xs.take n)++xs.drop n)[n]? = some x:=by
     have I:(qao ev (xs.take n)).length=n:=by simp[qao];omega
     rw[List.getElem?_append_right (by omega),I,Nat.sub_self,List.getElem?_drop,Nat.add_zero];exact hx
    have z:=qg Z;have q:=z.row E;rw[Nat.zero_add] at q;have i:=z.setState E (qb8 x.state x.own ev);obtain⟨CC,TT,m,M,y⟩:=id z;have b1:(n:Int)<(xs.length:Int):=by omega
    have R:stOk (wr.alloc (.cells #[.int .u64 0,.int .u64 0,.int .u8 0,.int .u8 0,.int .u8 0,.int .u8 0,.int .u8 0,.int .u8 0,.int .u8 0,.int .u8 0,.int .u8 0,.int .u8 0,.int .u8 0,.int .u8 0,.int .u8 0,.int .u8 0,.int .u8 0,.int .u8 0,.int .u8 0,.int .u8 0,.int .u8 0,.int .u8 0,.int .u8 0,.int .u8 0,.int .u8 0,.int .u8 0,.int .u8 0,.int .u8 0,.int .u8 0,.int .u8 0,.int .u8 0,.int .u8 0,.int .u8 0,.int .u8 0,.int .i64 0,.bool false,.int .i64 0,.bool false] 69)) wr.heap.size 0 38 (qm x).toArray=true:=qd4 (ql _ _) (by decide) (by rw[List.size_toArray,qbb]) (by rw[List.all_toArray,List.all_eq_true];exact qem x);have o:=qjh wr #[.int .u64 0,.int .u64 0,.int .u8 0,.int .u8 0,.int .u8 0,.int .u8 0,.int .u8 0,.int .u8 0,.int .u8 0,.int .u8 0,.int .u8 0,.int .u8 0,.int .u8 0,.int .u8 0,.int .u8 0,.int .u8 0,.int .u8 0,.int .u8 0,.int .u8 0,.int .u8 0,.int .u8 0,.int .u8 0,.int .u8 0,.int .u8 0,.int .u8 0,.int .u8 0,.int .u8 0,.int .u8 0,.int .u8 0,.int .u8 0,.int .u8 0,.int .u8 0,.int .u8 0,.int .u8 0,.int .i64 0,.bool false,.int .i64 0,.bool false] 69 (qm x) (by rw[qbb];rfl);have V:=qee x;have W:=qew x;have P:=qbb x;have HX:=qj hx;have H:=qj E;clear hx E i m M y z hh;generalize qm x=C at q R o V W P;go_upto_region 5 with fail;obtain⟨t,U⟩:=o;generalize (wr.alloc (.cells #[.int .u64 0,.int .u64 0,.int .u8 0,.int .u8 0,.int .u8 0,.int .u8 0,.int .u8 0,.int .u8 0,.int .u8 0,.int .u8 0,.int .u8 0,.int .u8 0,.int .u8 0,.int .u8 0,.int .u8 0,.int .u8 0,.int .u8 0,.int .u8 0,.int .u8 0,.int .u8 0,.int .u8 0,.int .u8 0,.int .u8 0,.int .u8 0,.int .u8 0,.int .u8 0,.int .u8 0,.int .u8 0,.int .u8 0,.int .u8 0,.int .u8 0,.int .u8 0,.int .u8 0,.int .u8 0,.int .i64 0,.bool false,.int .i64 0,.bool false] 69)).setCells wr.heap.size 0 C=Y at t U ⊢
    have a7:Y.cell? ⟨wr.heap.size,35,none⟩=some (.bool x.own):=by rw[qk t,List.getElem?_toArray];exact V
    have a8:Y.cell? ⟨wr.heap.size,36,none⟩=some (.int .i64 x.state):=by rw[qk t,List.getElem?_toArray];exact W
    have a1:Glob Y:=hG.new (nr.trans U);clear R q;go_wp2_with fail;refine(qud x.state ev x.own Y a1).mono ?_;rintro e X ⟨rfl,q2⟩;have D:qdf X g 0 (qao ev (xs.take n)++xs.drop n):=((qg Z).upd U (fun h=>h)).upd (q2.upd (fun _=>False)) (fun h=>h);have i:=D.setState (qg H) (qb8 x.state x.own ev);have K:=D.row (qg H);obtain⟨CC,TT,m,M,y⟩:=id D;have b2:X.cell? ⟨g,n*38+36,none⟩=some (.int .i64 x.state):=by
     rw[qk m];have:=y n x (qg H) 36 (by decide);rw[Nat.zero_add] at this;rw[this,qew]
    have b3:X.frozen? ⟨g,n*38+36,none⟩=false:=qo m _;rw[Nat.zero_add] at i;have O:=qj i;have n2:qq w X:=(nr.trans U).then (q2.upd (fun _=>False)) (fun _ _ h=>h.elim);clear i K m M y D a7 a8 t U;go_wp2;go_roundw
    case rel =>
     refine⟨n+1,by go_num,by omega,qj ?_,n2.setCell (fun h=>by have h1:g<w.heap.size:=h;omega) _⟩;have:=qg O;have e:(qao ev (xs.take n)++xs.drop n).set n {x with state:=qb8 x.state x.own ev} = qao ev (xs.take (n+1))++xs.drop (n+1):=by
      have I:(qao ev (xs.take n)).length=n:=by simp[qao];omega
      rw[List.set_append_right _ _ (by omega),I,Nat.sub_self,List.take_add_one,qg HX];have hd:xs.drop n=x::xs.drop (n+1):=by
       rw[List.drop_eq_getElem_cons J];congr 1;have:=qg HX;rw[List.getElem?_eq_getElem J] at this;exact Option.some.inj this
      rw[hd];simp[qao,aft]
     rwa [e] at this
    case measure=>simp[intOf];omega
   ·obtain rfl:n=xs.length:=by omega
    have hf:qdf wr g 0 (qao ev xs):=by have:=qg Z;simpa using this
    have a2:(qao ev xs).length=xs.length:=by simp[qao]
    have HF:=qj hf;clear hf hh;go_wp2
    first | go_ret2 | go_ret
    exact⟨_,rfl,nr,.inr ⟨g,0,_,by rw[a2];rfl,hg,(qg HF).toL⟩⟩
end
section
open Go.RowKit
attribute [local go_sem ↓ high] qa5 qbd qb1 qfn
attribute [local go_sem] qc5 qdo qeu qre qy
def qce(c:Ch)(x:Live):Ch:=if x.state=9 then c.give (x.own != x.paid) x.h.amount else c
def qet(xs:List Live):List Live:=xs.filter fun x=> !(x.state==9)
def Ch.goOn(c:Ch)(ev:Int):Ch:= {(qao ev c.xs).foldl qce c with xs:=qet (qao ev c.xs)}
theorem qwg{xs:List Live}{i:Nat}{x:Live}(m:xs[i]? = some x):qet (xs.take (i+1))=qet (xs.take i)++(if x.state=9 then [] else [x]):=by
 unfold qet;rw[List.take_add_one,m,List.filter_append];by_cases h:x.state=9<;>simp[h]
theorem qv5{xs:List Live}{i:Nat}{x:Live}(c:Ch)(m:xs[i]? = some x):(xs.take (i+1)).foldl qce c=qce ((xs.take i).foldl qce c) x:=by
 rw[List.take_add_one,m,List.foldl_append];rfl
theorem q0r{st:Int}(h : -9223372036854775808≤st∧st≤9223372036854775807)(own:Bool)(ev:Int) : -9223372036854775808≤qb8 st own ev∧qb8 st own ev≤9223372036854775807:=by
 unfold qb8;split
 ·rename_i i;have:=i.1;unfold qkl at this;simp at this;omega
 ·exact h
theorem q1z{x:Live}(h:LiveOk x)(ev:Int):LiveOk (aft ev x):=⟨h.h,q0r h.state _ _⟩
theorem ChP.newLive{O w:World}{g:Nat}{S:Nat→Prop}{c:Ch}{R N K:Value}(h:ChP O g S c R N K)(w0:World)(u:Upd (· = g) w0 O)(Y:qq O w)(t:Value)(z:List Live)(X:∀y∈z,LiveOk y)(E:z.length≤1000000)(m:w.ownsRow w0.heap.size 69 38 t z.length (z.flatMap qm)) :
  ChP (w.setCell ⟨g,47,none⟩ t) g (Fr S w0 (w.setCell ⟨g,47,none⟩ t)) {c with xs:=z} t N K:=by
 have C:=h.new Y
 have J:Upd (· = g) w (w.setCell ⟨g,47,none⟩ t):=(Upd.refl _ _).set1 47 _
 have x:=zq C.at_ 47 t
 rw[quu c R N K h.ok.s.seed z] at x
 have H:∀k,t.ownBlock=some k→w0.heap.size≤k:=by
  intro k i;rcases m.2 with ⟨e,_⟩ | ⟨P,cap,q,e,U,_⟩
  ·rw[e] at i;simp[Value.ownBlock] at i
  ·rw[e] at i;simp[Value.ownBlock] at i;omega
 have I:∀k,t.ownBlock=some k→k<w.heap.size:=fun k i=>by
  obtain⟨q,M⟩:=zv m k i;exact zi M
 have o:w.ownsRow 0 69 38 t z.length (z.flatMap qm):=by
  refine⟨m.1,?_⟩;rcases m.2 with e | ⟨P,cap,q,e,U,r⟩
  ·exact .inl e
  ·exact .inr ⟨P,cap,q,e,Nat.zero_le _,r⟩
 have D:∀ {T:TypeId} {v:Value} {n:Nat} {xs:List Value},T≠126→w.ownsRow 0 T 38 v n xs→∀k,v.ownBlock=some k→k≠g:=by
  intro T v n xs V W k i e;obtain⟨q,M⟩:=zv W k i;exact zx M C.at_ V e
 have Z:=J.size
 refine⟨x,⟨h.ok.s,h.ok.signed,h.ok.heard,h.ok.nextOwn,h.ok.nextTheirs,h.ok.loc,h.ok.rem,X,E,h.ok.shelf,h.ok.news,h.ok.last,h.ok.many⟩,?_,?_,?_,.inl h.inG,?_,fun k e=> .inl (h.inN k e),fun k e=> .inl (h.inA k e),h.sep,?_⟩
 ·exact zc o J (fun k i e=>D (by decide) o k i e)
 ·exact zc C.news J (fun k i e=>D (by decide) C.news k i e)
 ·exact zc C.last J (fun k i e=>D (by decide) C.last k i e)
 ·intro k i;have:=I k i;exact .inr ⟨H k i,by omega⟩
 ·rintro k (i | i)
  ·have:=C.lt k i;omega
  ·exact i.2
theorem qje(g:Nat)(S:Nat→Prop)(c:Ch)(ev:Int)(w:World)(h:ChS w g S c)(hG:Glob w) :
  Calls Tryz.prog 119 #[.pointer (some ⟨g,0,none⟩),.int .i64 ev] w fun e w'=>e = .returned (.tuple #[])∧ChS w' g (Fr S w w') (c.goOn ev)∧Upd S w w':=by
 obtain⟨lv,nv,av,h⟩:=h
 have K:w.cell? ⟨g,47,none⟩=some lv:=h.toR.live
 have M:=qmw lv c.xs ev (by have:=h.ok.few;omega) w hG h.toI.lives
 obtain⟨i9,z9,b9,d3,e9,e6,e7,e8,d2⟩:=qi3
 have P:=qj h
 obtain⟨la,f3,d8⟩:=qaa h.live
 rw[d8] at K M
 clear h
 go_enter Tryz.func119,Tryz.ntmps119
 go_wp2_with fail
 refine M.mono ?_
 rintro e w1 ⟨u,rfl,n1,hu⟩
 obtain⟨ua,f4,rfl,z⟩:=hu.row
 have b0:(qao ev c.xs).length≤1000000:=by have:=(qg P).ok.few;simp[qao];omega
 have b3:∀y∈qao ev c.xs,LiveOk y:=by
  intro y hy;obtain⟨x,hx,rfl⟩:=List.mem_map.1 hy;exact q1z ((qg P).ok.xs x hx) ev
 have a7:c.goOn ev = {(qao ev c.xs).foldl qce c with xs:=qet (qao ev c.xs)} := rfl
 have b6:=qj a7
 have c7:=qj b3
 clear M hu K b3 a7
 generalize e5:qao ev c.xs=t at *
 clear e5
 have h1:=(qg P).new n1
 have f1:g<w.heap.size:=zi (qg P).at_
 have g3:(t.length:Int)≤1000000:=by omega
 have c9:=qj h1
 have g5:=n1.size
 clear h1
 go_wp2_with fail
 go_loopw [4,6,14] (fun kv _ iv wr=>∃i:Nat,iv = .int .i64 (i:Int)∧i≤t.length∧wr.ownsRow w1.heap.size 69 38 kv (qet (t.take i)).length ((qet (t.take i)).flatMap qm)∧Hid (ChP wr g S ((t.take i).foldl qce c) lv nv av)∧Upd (· = g) w1 wr) (fun _ _ iv _=>t.length-(intOf iv).toNat)
 case atStart=>exact⟨0,rfl,Nat.zero_le _,World.ownsRow_nil _ _ _ _,c9,Upd.refl _ _⟩
 case round =>
  obtain⟨i,rfl,hi,v,HC,nr⟩:=hrel;obtain⟨D,rfl⟩:∃D:World,D=wr:=⟨_,rfl⟩;obtain⟨ka,b4,d6⟩:=qaa v;subst d6;by_cases d7:i<t.length
  ·obtain⟨x,E⟩:∃x,t[i]? = some x:=⟨_,List.getElem?_eq_getElem d7⟩;obtain⟨g',off,rfl,a1,hh⟩:=z i x E;have b2:=(hh.upd nr (fun e=>by omega)).row E;have g1:(i:Int)<(t.length:Int):=by omega
   have e1:=qgn D x;have O:=qgb D x;have a8:=qwg E;have a2:=qv5 c E;have g4:(qet (t.take i)).length≤i:=by
    unfold qet;refine Nat.le_trans (List.length_filter_le _ _) ?_;rw[List.length_take];omega
   have HO:=qj v;have HK:=qj a8;have HT:=qj a2;clear a8 a2 E hh z v;go_upto_region 4 with fail;obtain⟨I,U⟩:=O;generalize (D.alloc (.cells (qm Live.zero).toArray 69)).setCells D.heap.size 0 (qm x)=H at I U ⊢;have c8:H.cell? ⟨D.heap.size,36,none⟩=some (.int .i64 x.state):=by rw[qk I,List.getElem?_toArray];exact qew x
   have d9:=nr.size;have g0:w1.heap.size≤D.heap.size:=d9;have V:=qj ((qg HC).new U);have b5:=nr.then (U.mono (T:=fun _=>False) (fun _ _ h=>h)) (fun _ _ h=>h.elim);clear e1 b2;by_cases R:x.state=9
   ·have f5:H.cell? ⟨D.heap.size,35,none⟩=some (.bool x.own):=by rw[qk I,List.getElem?_toArray];exact qee x
    have f6:H.cell? ⟨D.heap.size,37,none⟩=some (.bool x.paid):=by rw[qk I,List.getElem?_toArray];exact qjk x
    have d1:H.cell? ⟨D.heap.size,1,none⟩=some (.int .u64 x.h.amount):=by rw[qk I,List.getElem?_toArray];exact qwn x
    have a6:=fun(W:World) (q:Q H W)=>qz0 g S _ lv nv av (x.own != x.paid) x.h.amount W ((qg V).upd (q.upd (fun _=>False)) (fun _ _ h=>h))
    have X:=qj a6;rw[R] at c8;clear a6 I;go_wp2_with fail;refine(qg X _ (Q.refl _)).mono ?_;rintro e w2 ⟨rfl,b1,u2⟩;have N:qce ((t.take i).foldl qce c) x=((t.take i).foldl qce c).give (x.own != x.paid) x.h.amount:=by unfold qce;rw[if_pos R]
    have c2:=qj b1;have f0:=b5.trans u2;have b8:=qj (zc (zc (qg HO) U (fun _ _ h=>h)) u2 (fun k m e=>by
     have a1:=(qg HO);rcases a1.2 with ⟨e,_⟩ | ⟨g2,cap,Y,Z,e3,_⟩
     ·rw[e] at m;simp[Value.ownBlock] at m
     ·rw[Z] at m;simp[Value.ownBlock] at m;omega))
    clear b1 X;go_wp2_with fail;go_roundw
    case rel =>
     refine⟨i+1,by go_num,by omega,?_,?_,f0⟩
     ·rw[qg HK,if_pos R,List.append_nil];exact qg b8
     ·rw[qg HT,N];exact c2
    case measure=>simp[intOf];omega
   ·have f8:(x.state==9)=false:=by simpa using R
    have g6:=qaj I 38 (by rw[List.size_toArray,qbb]);have e4:=qbb x;have HB:=qj I;have c0:=qj (zc (qg HO) U (fun _ _ h=>h));have f9:H.heap.size=H.heap.size:=rfl;have f2:=U.size;clear I;go_wp2_with (at_builtin;refine wpList_append_own _ rfl (.tmp 31) (.tmp 33) 46 rfl w1.heap.size 69 i9 _ 38 b9 Tryz.underlying46 d3 e9 e6 e7 e8 (by decide) _ _ _ rfl ((qg c0).alloc _) ⟨H.heap.size,0,none⟩ 1 1 (qm x) rfl (by rw[e4]) ?c1 (qem x) ?c3 ?c4 ?c5 ?_)
    case c3=>unfold maxLen;omega
    case c4=>have:=Nat.mul_le_mul (show (qet (t.take i)).length+1≤1000000 by omega) d2;omega
    case c5=>omega
    intro v' w5 C o _;obtain⟨a5,k5,c5,rfl⟩:=qkq C;have hO:=qg HO;have d0:qq H (H.alloc (.cells (qm x).toArray 69)):=(Upd.refl _ _).alloc _;have n5:Upd (· = g) w1 w5:=(b5.alloc _).grown o (fun k m d4=>by
     rcases hO.2 with ⟨e,_⟩ | ⟨g2,cap,Y,Z,e3,_⟩
     ·rw[e] at m;simp[Value.ownBlock] at m
     ·rw[Z] at m;simp[Value.ownBlock] at m;omega)
    have u5:Upd (fun k=>w1.heap.size≤k) (H.alloc (.cells (qm x).toArray 69)) w5:=(Upd.refl _ _).grown o (fun k m d4=>by
     rcases hO.2 with ⟨e,_⟩ | ⟨g2,cap,Y,Z,e3,_⟩
     ·rw[e] at m;simp[Value.ownBlock] at m
     ·rw[Z] at m;simp[Value.ownBlock] at m;omega)
    have c6:=qj (((qg V).new d0).upd u5 (fun k m e=>by have:=(qg P).lt k m;omega));have N:qce ((t.take i).foldl qce c) x=(t.take i).foldl qce c:=by unfold qce;rw[if_neg R]
    have b7:=qj C;clear C o HB;go_wp2_with fail;go_roundw
    case rel =>
     refine⟨i+1,by go_num,by omega,?_,?_,n5⟩
     ·rw[qg HK,if_neg R,List.length_append,List.flatMap_append];have:[x].flatMap qm=qm x:=by simp
      rw[this];exact qg b7
     ·rw[qg HT,N];exact c6
    case measure=>simp[intOf];omega
  ·obtain rfl:i=t.length:=by omega
   rw[List.take_length] at *
   have hP:=qg HC;have K:D.cell? ⟨g,47,none⟩=some lv:=hP.toR.live;have f7:D.frozen? ⟨g,47,none⟩=false:=qo hP.at_ 47;have d5:(qet t).length≤1000000:=Nat.le_trans (List.length_filter_le _ _) b0;have J:=hP.newLive w1 nr (Upd.refl _ _) _ (qet t) (fun y hy=>qg c7 y (List.mem_filter.1 hy).1) d5 v;have uF:Upd (· = g) D (D.setCell ⟨g,47,none⟩ (.slice ka (qet t).length b4)):=(Upd.refl _ _).set1 47 _;have HF:=qj J;have HU:=qj (nr.trans uF);clear J v uF z hP;go_wp2_with fail;go_end0;have hU:=qg HU;have hF:=qg HF;have h0:=qg P;rw[qg b6];refine⟨rfl,⟨_,_,_,hF.wider (fun k m=> ?_) (fun k m=> ?_)⟩,(n1.mono (fun _ _ h=>h.elim)).trans (hU.mono (fun k _ e=>by rw[e];exact h0.inG))⟩
   ·rcases m with m | m
    ·exact .inl m
    ·exact .inr ⟨by omega,m.2⟩
   ·rcases m with m | m
    ·exact hF.lt k (.inl m)
    ·exact m.2
end
section
open Go.RowKit
theorem qvo(s:Int)(H:List Value)(h:H.length=35):Tryz.prog.built 69 [(0,.agg H.toArray),(2,.int .i64 s)]=some (H++([.bool false,.int .i64 s,.bool false]:List Value)).toArray:=by
 obtain⟨i,z,o,v,m⟩:=qcv Tryz.zeroLive';obtain⟨w,t,q⟩:=Tryz.placesLiv;rw[qbc o t v q];rw[qcq (P:=[]) (A:=H) (Z:=qv Htlc.zero) (R:=[.bool false,.int .i64 0,.bool false]) (off:=0) (by rw[h];rfl) rfl (by rw[h];rfl) (m.trans ql2)];rw[qbm (P:=H++[.bool false]) (z:= .int .i64 0) (R:=[.bool false]) (off:=36) rfl (by simp[h]) rfl (by simp)];rw[Instr.fill];simp
theorem q6v(s:Int)(H:List Value)(w:World):(qs0 #[(0,.agg H.toArray),(2,.int .i64 s)]).run Tryz.prog w=if H.length=35 then .ok (.agg (H++([.bool false,.int .i64 s,.bool false]:List Value)).toArray) w else (Instr.build 69 #[(0,.agg H.toArray),(2,.int .i64 s)]).run Tryz.prog w:=by
 by_cases h:H.length=35
 ·rw[if_pos h];exact run_build w _ _ _ (qvo s H h)
 ·rw[if_neg h];rfl
attribute [local go_sem ↓ high] qa5 qbd qb1 qfn zl qds qls qk0 qk4 qk7
attribute [local go_sem] qc5 qdo qeu qre qy qa9 qkk q5u q2a qvh
structure MsgOk(m:MsgV):Prop where
 kind : -9223372036854775808≤m.kind∧m.kind≤9223372036854775807
 ch:0≤m.ch∧m.ch<4294967296
 id:0≤m.id∧m.id<18446744073709551616
 amount:0≤m.amount∧m.amount<18446744073709551616
 len:m.hash.length=32
 hash:∀b∈m.hash,0≤b∧b≤255
 expiry : -9223372036854775808≤m.expiry∧m.expiry≤9223372036854775807
 number : -9223372036854775808≤m.number∧m.number≤9223372036854775807
def qbq(l:List Int):Vector Int 32:=if h:l.length=32 then ⟨l.toArray,by simpa using h⟩ else Vector.replicate 32 0
theorem qf8{l:List Int}(h:l.length=32):(qbq l).toList=l:=by
 unfold qbq;rw[dif_pos h];rfl
theorem qr2(m:MsgV){w:World}{b:Nat}{T:TypeId}{q:Nat × Nat}(h:w.heap[b]? = some (.cells m.cells.toArray T q))(o:m.hash.length=32) :
  w.cell? ⟨b,0,none⟩=some (.int .i64 m.kind)∧w.cell? ⟨b,1,none⟩=some (.int .u32 m.ch)∧w.cell? ⟨b,2,none⟩=some (.int .u64 m.id)∧w.cell? ⟨b,3,none⟩=some (.int .u64 m.amount)∧w.cell? ⟨b,36,none⟩=some (.int .i64 m.expiry)∧w.cell? ⟨b,37,none⟩=some (.int .i64 m.number)∧zt w b 4 32=some (m.hash.map (Value.int .u8)).toArray:=by
 have i:∀j,m.cells[36+j]? = ([.int .i64 m.expiry,.int .i64 m.number]:List Value)[j]? := by
  intro j;unfold MsgV.cells;rw[show 36+j=(32+j)+4 by omega];simp only[List.getElem?_cons_succ];rw[List.getElem?_append_right (by simp[o]),List.length_map,o,Nat.add_sub_cancel_left]
 refine⟨qk h 0,qk h 1,qk h 2,qk h 3,?_,?_,?_⟩
 ·rw[qk h 36,List.getElem?_toArray];exact i 0
 ·rw[qk h 37,List.getElem?_toArray];exact i 1
 ·rw[qby h 4 32 (by rw[List.size_toArray,m.len o];omega)];congr 1;apply Array.ext';rw[Array.toList_extract];unfold MsgV.cells;simp[o]
def qa2(c:Ch)(m:MsgV):Int :=
 if c.k.shutHeard=true then 135 else if m.amount=0 then 1 else if m.id≠c.k.nextTheirs then 1 else if m.expiry=0 then 131 else if 8≤qd6 false c.xs then 130 else if c.rem<m.amount then 61 else 0
def qgu(m:MsgV):Live:=⟨⟨m.id,m.amount,qbq m.hash,m.expiry⟩,false,0,false⟩
def Ch.added(c:Ch)(m:MsgV):Ch:= {c with rem:=c.rem-m.amount,k:= {c.k with nextTheirs:=IntKind.u64.wrap (c.k.nextTheirs+1)},xs:=c.xs++[qgu m]}
def Ch.hearAdd(c:Ch)(m:MsgV):Ch × Int:=if qa2 c m=0 then (c.added m,0) else (c,qa2 c m)
theorem qts(g:Nat)(S:Nat→Prop)(c:Ch)(m:MsgV)(hm:MsgOk m)(w:World)(h:ChS w g S c)(g0:c.xs.length<1000000) :
  Calls Tryz.prog 176 #[.pointer (some ⟨g,0,none⟩),.agg m.cells.toArray] w fun e w' =>
   e = .returned (.tuple #[qcb,.int .i64 (c.hearAdd m).2])∧ChS w' g (Fr S w w') (c.hearAdd m).1∧Upd S w w':=by
 obtain⟨lv,nv,av,h⟩:=h
 go_enter Tryz.func176,Tryz.ntmps176
 go_upto_region 1 with fail
 have a7:(w.alloc (.cells m.cells.toArray 101)).heap[w.heap.size]? = some (.cells m.cells.toArray 101 (0,0)):=ql _ _
 have nA:qq w (w.alloc (.cells m.cells.toArray 101)):=(Upd.refl _ _).alloc _
 generalize w.alloc (.cells m.cells.toArray 101)=wA at a7 nA ⊢
 obtain⟨A,f6⟩:∃A,A=w.heap.size:=⟨_,rfl⟩
 rw[←f6] at a7 ⊢
 have hA:=h.new nA
 have i5:g≠A:=by have:=h.lt g h.inG;omega
 have k5:w.heap.size≤A:=by omega
 clear f6
 have d2:wA.cell? ⟨g,43,none⟩=some (.bool c.k.shutHeard):=hA.toR.shutHeard
 have d1:wA.cell? ⟨g,41,none⟩=some (.int .u64 c.k.nextTheirs):=hA.toR.nextTheirs
 have b4:wA.cell? ⟨g,46,none⟩=some (.int .u64 c.rem):=hA.toR.rem
 obtain⟨m0,m1,m2,m3,b8,e7,m4⟩:=qr2 m a7 hm.len
 have f3:∀W,qq w W→qa2 c m≠0→ChS W g (Fr S w W) (c.hearAdd m).1∧(c.hearAdd m).2=qa2 c m∧Upd S w W:=by
  intro W nW H;unfold Ch.hearAdd;rw[if_neg H];exact⟨(h.new nW).fr w,rfl,nW.mono (fun _ _ h=>h.elim)⟩
 have y:=qj f3
 have H0:=qj h
 have HA:=qj hA
 have NA:=qj nA
 have BA:=qj a7
 clear f3 h hA nA a7 m0 m1 e7 m4
 by_cases O:c.k.shutHeard=true
 ·have H:qa2 c m=135:=by unfold qa2;rw[if_pos O]
  rw[O] at d2;have J:=qj H;clear H O;go_wp2_with ((with_reducible first|rfl|refine' ut ?_ ?_;rotate_left|refine' uu ?_)<;>intros);go_ret2;obtain⟨b1,b2,b3⟩:=qg y wA (qg NA) (by rw[qg J];decide);exact⟨by rw[b2,qg J];rfl,b1,b3⟩
 have P:c.k.shutHeard=false:=by simpa using O
 rw[P] at d2
 by_cases V:m.amount=0
 ·have H:qa2 c m=1:=by unfold qa2;rw[if_neg O,if_pos V]
  rw[V] at m3;have J:=qj H;clear H O P;go_wp2_with ((with_reducible first|rfl|refine' ut ?_ ?_;rotate_left|refine' uu ?_)<;>intros);go_ret2;obtain⟨b1,b2,b3⟩:=qg y _ ((qg NA).drewN 1) (by rw[qg J];decide);exact⟨by rw[b2,qg J];rfl,b1,b3⟩
 have k2:(m.amount==0)=false:=by simpa using V
 by_cases X:m.id≠c.k.nextTheirs
 ·have H:qa2 c m=1:=by unfold qa2;rw[if_neg O,if_neg V,if_pos X]
  have h1:(m.id != c.k.nextTheirs)=true:=by simpa using X
  have J:=qj H;clear H O P V X;go_wp2_with ((with_reducible first|rfl|refine' ut ?_ ?_;rotate_left|refine' uu ?_)<;>intros);go_ret2;obtain⟨b1,b2,b3⟩:=qg y _ ((qg NA).drewN 1) (by rw[qg J];decide);exact⟨by rw[b2,qg J];rfl,b1,b3⟩
 have h1:(m.id != c.k.nextTheirs)=false:=by simpa using X
 by_cases e4:m.expiry=0
 ·have H:qa2 c m=131:=by unfold qa2;rw[if_neg O,if_neg V,if_neg X,if_pos e4]
  rw[e4] at b8;have J:=qj H;clear H O P V X;go_wp2_with ((with_reducible first|rfl|refine' ut ?_ ?_;rotate_left|refine' uu ?_)<;>intros);go_ret2;obtain⟨b1,b2,b3⟩:=qg y _ ((qg NA).drewN 1) (by rw[qg J];decide);exact⟨by rw[b2,qg J];rfl,b1,b3⟩
 have k3:(m.expiry==0)=false:=by simpa using e4
 have g3:=fun(W:World) (q:Q wA W)=>qp8 g S c false W ⟨lv,nv,av,(qg HA).upd (q.upd (fun _=>False)) (fun _ _ h=>h)⟩
 have f2:=qj g3
 clear g3
 go_wp2_with ((with_reducible first|rfl|refine' ut ?_ ?_;rotate_left|refine' uu ?_)<;>intros)
 refine(qg f2 _ ((Q.refl _).drewN' 1)).mono ?_
 rintro e w1 ⟨rfl,g6⟩
 have n1:qq wA w1:=g6.ofDrew
 have f4:=n1.cell b4 (fun h=>h)
 have j8:=n1.cell m3 (fun h=>h)
 have c7:=(qg NA).trans n1
 have f5:=n1.old (qg BA) (fun h=>h)
 have Y:=(qg HA).new n1
 have N1:=qj c7
 have A1:=qj f5
 have P1:=qj Y
 clear b4 d1 d2 m3 m2 b8 f2 n1 g6 c7 f5 Y
 by_cases e5:8≤qd6 false c.xs
 ·have H:qa2 c m=130:=by unfold qa2;rw[if_neg O,if_neg V,if_neg X,if_neg e4,if_pos e5]
  have h2:8≤(qd6 false c.xs:Int):=by omega
  have J:=qj H;clear H O P V X;go_wp2_with ((with_reducible first|rfl|refine' ut ?_ ?_;rotate_left|refine' uu ?_)<;>intros);go_ret2;obtain⟨b1,b2,b3⟩:=qg y _ (qg N1) (by rw[qg J];decide);exact⟨by rw[b2,qg J];rfl,b1,b3⟩
 have h2:¬8≤(qd6 false c.xs:Int):=by omega
 by_cases e6:c.rem<m.amount
 ·have H:qa2 c m=61:=by unfold qa2;rw[if_neg O,if_neg V,if_neg X,if_neg e4,if_neg e5,if_pos e6]
  have J:=qj H;clear H O P V X;go_wp2_with ((with_reducible first|rfl|refine' ut ?_ ?_;rotate_left|refine' uu ?_)<;>intros);go_ret2;obtain⟨b1,b2,b3⟩:=qg y _ ((qg N1).drewN 1) (by rw[qg J];decide);exact⟨by rw[b2,qg J];rfl,b1,b3⟩
 have H:qa2 c m=0:=by unfold qa2;rw[if_neg O,if_neg V,if_neg X,if_neg e4,if_neg e5,if_neg e6]
 have g4:c.hearAdd m=(c.added m,0):=by unfold Ch.hearAdd;rw[if_pos H]
 have HO:=qj g4
 have g1:m.id=c.k.nextTheirs:=by simpa using X
 clear g4 H O P V X y
 go_upto_region 11 with ((with_reducible first|rfl|refine' ut ?_ ?_;rotate_left|refine' uu ?_)<;>intros)
 have nd:qq w1 w1.drew:=(Upd.refl _ _).drew
 have N2:=qj ((qg N1).trans nd)
 have A2:=qj (nd.old (qg A1) (fun h=>h))
 have P2:=qj ((qg P1).new nd)
 clear f4 j8 N1 A1 P1 nd
 generalize w1.drew=z at N2 A2 P2 ⊢
 obtain⟨m0,m1,m2,m3,b8,e7,m4⟩:=qr2 m (w:=z) (qg A2) hm.len
 rw[g1] at m2
 clear m0 m1 e7
 have b0:=qg A2
 have Y:=qg P2
 obtain⟨K,hK⟩:∃K:List Value,K = .int .u64 c.k.nextTheirs :: .int .u64 m.amount::(m.hash.map (Value.int .u8)++[.int .i64 m.expiry]):=⟨_,rfl⟩
 have a2:K.length=35:=by rw[hK];simp[hm.len]
 have d4:K=qv (qgu m).h:=by
  rw[hK,←g1];show _=Value.int .u64 m.id :: .int .u64 m.amount::((qbq m.hash).toList.map (Value.int .u8)++[.int .i64 m.expiry]);rw[qf8 hm.len]
 have h8:(m.hash.map (Value.int .u8)).length=32:=by simp[hm.len]
 have i2:∀W:World,(q2i #[(0,.int .u64 c.k.nextTheirs),(1,.int .u64 m.amount),(2,.agg (m.hash.map (Value.int .u8)).toArray),(3,.int .i64 m.expiry)]).run Tryz.prog W = .ok (.agg K.toArray) W:=fun W=>by
  rw[qvh,if_pos h8,hK]
 have nD:qq z (z.alloc (.cells (qv Htlc.zero).toArray 41)):=(Upd.refl _ _).alloc _
 have d7:(z.alloc (.cells (qv Htlc.zero).toArray 41)).heap[z.heap.size]? = some (.cells (qv Htlc.zero).toArray 41 (0,0)):=ql z _
 have h7:w.heap.size≤z.heap.size:=(qg N2).size
 have d8:g≠z.heap.size:=by have:=zi Y.at_;omega
 have h5:A≠z.heap.size:=by have:=zi b0;omega
 have a6:∀v∈K,v.oneCell'=true:=by rw[d4];exact qhx _
 have i8:stOk (z.alloc (.cells (qv Htlc.zero).toArray 41)) z.heap.size 0 35 K.toArray=true:=qdk (C:=(qv Htlc.zero).toArray) d7 (by rw[a2];rfl) a6
 have f9:((z.alloc (.cells (qv Htlc.zero).toArray 41)).setCells z.heap.size 0 K).heap[z.heap.size]? = some (.cells K.toArray 41 (0,0)):=by
  rw[qax d7 0 K,qb5 _ _ (by rw[a2];rfl)]
 have uE:Upd (· = z.heap.size) (z.alloc (.cells (qv Htlc.zero).toArray 41)) ((z.alloc (.cells (qv Htlc.zero).toArray 41)).setCells z.heap.size 0 K):=(Upd.refl _ _).setCells 0 K
 have c6:qq z ((z.alloc (.cells (qv Htlc.zero).toArray 41)).setCells z.heap.size 0 K):=nD.then uE (fun i hi e=>by omega)
 have P3:=qj (Y.new c6)
 have A3:=qj (c6.old b0 (fun h=>h))
 have E3:=qj f9
 have NW:=qj ((qg N2).trans c6)
 have HK:=qj hK
 have g7:=qj d4
 clear b0 Y nD d7 a6 f9 uE c6 hK d4
 go_upto_region 12 with ((with_reducible first|rfl|refine' ut ?_ ?_;rotate_left|refine' uu ?_)<;>intros)
 clear i8 i2 m4 m2 b8 m3
 obtain⟨E,hE⟩:∃E,E=z.heap.size:=⟨_,rfl⟩
 rw[←hE] at h7 d8 h5 E3 A3 P3 NW ⊢
 generalize (z.alloc (.cells (qv Htlc.zero).toArray 41)).setCells E 0 K=w3 at P3 A3 E3 NW ⊢
 clear hE
 have t:=qg P3
 have b4:w3.cell? ⟨g,46,none⟩=some (.int .u64 c.rem):=t.toR.rem
 have h4:w3.frozen? ⟨g,46,none⟩=false:=qo t.at_ 46
 obtain⟨-,-,-,m3,-,-,-⟩:=qr2 m (qg A3) hm.len
 have k6:=t.ok.rem
 have k8:=t.ok.nextTheirs
 have k7:=hm.amount
 have j0:IntKind.u64.wrap (c.rem-m.amount)=c.rem-m.amount:=qdl (by omega) (by omega)
 obtain⟨c1,N⟩:∃c1:Ch,c1 = {c with rem:=c.rem-m.amount} := ⟨_,rfl⟩
 have c9:c1.Ok:=by
  rw[N];exact⟨t.ok.s,t.ok.signed,t.ok.heard,t.ok.nextOwn,t.ok.nextTheirs,t.ok.loc,show 0≤c.rem-m.amount∧c.rem-m.amount<_ by omega,t.ok.xs,t.ok.few,t.ok.shelf,t.ok.news,t.ok.last,t.ok.many⟩
 have o:=t.put (i:=46) (x:= .int .u64 (c.rem-m.amount)) (c':=c1) (by rw[N];exact qyl c lv nv av t.ok.s.seed (c.rem-m.amount)) c9 (by rw[N]) (by rw[N]) (by rw[N])
 have u4:Upd (· = g) w3 (w3.setCell ⟨g,46,none⟩ (.int .u64 (c.rem-m.amount))):=(Upd.refl _ _).set1 46 _
 have P4:=qj o
 have A4:=qj (u4.old (qg A3) (fun e=>i5 e.symm))
 have E4:=qj (u4.old (qg E3) (fun e=>d8 e.symm))
 have U4:=qj (((qg NW).mono (fun _ _ h=>h.elim)).trans (u4.mono (fun k _ e=>by rw[e];exact(qg H0).inG)):Upd S w _)
 clear t c9 o u4 P3 A3 E3 NW
 go_upto_region 13 with ((with_reducible first|rfl|refine' ut ?_ ?_;rotate_left|refine' uu ?_)<;>intros)
 clear b4 h4 j0 m3
 generalize w3.setCell ⟨g,46,none⟩ (.int .u64 (c.rem-m.amount))=w4 at P4 A4 E4 U4 ⊢
 have o:=qg P4
 have i7:c1.k=c.k:=by rw[N]
 have d1:w4.cell? ⟨g,41,none⟩=some (.int .u64 c.k.nextTheirs):=by rw[←i7];exact o.toR.nextTheirs
 have h3:w4.frozen? ⟨g,41,none⟩=false:=qo o.at_ 41
 obtain⟨M,b5⟩:∃x,x=IntKind.u64.wrap (c.k.nextTheirs+1):=⟨_,rfl⟩
 have f8:0≤M∧M<18446744073709551616:=by rw[b5,IntKind.wrap_u64];omega
 have j1:IntKind.u64.wrap (c.k.nextTheirs+1)=M:=b5.symm
 obtain⟨c2,T⟩:∃c2:Ch,c2 = {c1 with k:= {c1.k with nextTheirs:=M}} := ⟨_,rfl⟩
 have d0:c2.Ok:=by
  rw[T];exact⟨o.ok.s,o.ok.signed,o.ok.heard,o.ok.nextOwn,f8,o.ok.loc,o.ok.rem,o.ok.xs,o.ok.few,o.ok.shelf,o.ok.news,o.ok.last,o.ok.many⟩
 have R:=o.put (i:=41) (x:= .int .u64 M) (c':=c2) (by rw[T];exact qoh c1 lv nv av o.ok.s.seed M) d0 (by rw[T]) (by rw[T]) (by rw[T])
 have u5:Upd (· = g) w4 (w4.setCell ⟨g,41,none⟩ (.int .u64 M)):=(Upd.refl _ _).set1 41 _
 have P5:=qj R
 have E5:=qj (u5.old (qg E4) (fun e=>d8 e.symm))
 have U5:=qj ((qg U4).trans (u5.mono (fun k _ e=>by rw[e];exact(qg H0).inG)))
 have e9:=qj N
 have f0:=qj T
 have g8:=qj b5
 clear o d0 R u5 P4 A4 E4 U4 N T b5
 go_upto_region 14 with ((with_reducible first|rfl|refine' ut ?_ ?_;rotate_left|refine' uu ?_)<;>intros)
 clear d1 h3 j1
 generalize w4.setCell ⟨g,41,none⟩ (.int .u64 M)=e8 at P5 E5 U5 ⊢
 have c0:qq e8 e8.drew:=(Upd.refl _ _).drew
 replace P5:=qj ((qg P5).new c0)
 replace E5:=qj (c0.old (qg E5) (fun h=>h))
 replace U5:=qj ((qg U5).trans (c0.mono (fun _ _ h=>h.elim)))
 clear c0
 generalize e8.drew=w5 at P5 E5 U5 ⊢
 have R:=qg P5
 have d3:w5.drew.cell? ⟨g,47,none⟩=some lv:=R.toR.live
 have rE:zt w5 E 0 35=some K.toArray:=qaj (qg E5) 35 (by rw[List.size_toArray,a2])
 obtain⟨L,hL⟩:∃L:List Value,L=K++([.bool false,.int .i64 0,.bool false]:List Value):=⟨_,rfl⟩
 have h9:L.length=38:=by rw[hL];simp[a2]
 have f7:L=qm (qgu m):=by rw[hL,qg g7];rfl
 have i1:∀W:World,(qs0 #[(0,.agg K.toArray),(2,.int .i64 0)]).run Tryz.prog W = .ok (.agg L.toArray) W:=fun W=>by rw[q6v,if_pos a2,hL]
 obtain⟨i9,z9,b9,i6,j7,j3,j4,j5,i0⟩:=qi3
 obtain⟨la,k1,g2⟩:=qaa R.live
 have g5:c2.xs=c.xs:=by rw[qg f0,qg e9]
 have nF:qq w5 (w5.alloc (.cells L.toArray 69)).drew:=((Upd.refl _ _).alloc _).drew
 have b6:(w5.alloc (.cells L.toArray 69)).drew.heap[w5.heap.size]? = some (.cells L.toArray 69 (0,0)):=ql w5 _
 have P6:=qj (R.new nF)
 have U6:=qj ((qg U5).trans (nF.mono (fun _ _ h=>h.elim)))
 have a1:=nF.cell d3 (fun h=>h)
 have h6:w.heap.size≤w5.heap.size:=by have:=zi (qg E5);omega
 have HL:=qj hL
 have f1:=qj f7
 have g9:=qj g5
 clear R P5 E5 U5 hL f7 g5
 refine qay (fun w'=>w'.cell? ⟨g,47,none⟩=some lv) [4] (.of [0,1,2,3,4,5,6,7,8,9,10,11]) (by kernel_rfl) (by kernel_rfl) d3 ?_
 simp only[Plan.of]
 go_wp2_with ((with_reducible first|rfl|refine' ut ?_ ?_;rotate_left|refine' uu ?_)<;>intros)
 refine⟨trivial,?_⟩
 clear d3 nF rE i1
 generalize (w5.alloc (.cells L.toArray 69)).drew=w6 at b6 P6 U6 a1 ⊢
 generalize w5.heap.size=D at b6 h6 ⊢
 have I:=(qg P6).live
 unfold qq1 at I
 rw[g2] at I
 have HN:=qj I
 clear I
 have i4:c2.xs.length<1000000:=by rw[qg g9];exact g0
 go_wp2_with (first | (at_builtin;refine wpList_append_own_at _ rfl (.tmp 77) (.tmp 80) 46 rfl 0 69 i9 _ 38 b9 Tryz.underlying46 i6 j7 j3 j4 j5 (by decide) _ _ _ rfl (qg HN) ⟨D,0,none⟩ 1 1 L rfl (by rw[h9]) ?c1 ?c2 ?c3 ?c4 ?c5 ?_) | ((with_reducible first|rfl|refine' ut ?_ ?_;rotate_left|refine' uu ?_)<;>intros))
 case c1=>exact World.news_of_block (cs:=L.toArray) (fr:=(0,0)) b6
 case c2=>rw[qg f1];exact qem _
 case c3=>unfold maxLen;omega
 case c4=>have:=Nat.mul_le_mul (show c2.xs.length+1≤1000000 by omega) i0;omega
 case c5=>omega
 intro v' wE U b7 _ a8
 obtain⟨a',k0,d9⟩:=qaa U
 rw[←g2] at b7 a8
 have j2:LiveOk (qgu m):=⟨⟨⟨hm.id.1,by have:=hm.id.2;show m.id≤_;omega⟩,⟨hm.amount.1,by show m.amount≤_;omega⟩,by rw[show (qgu m).h.hash=qbq m.hash from rfl,qf8 hm.len];exact hm.hash,hm.expiry⟩,⟨by show (-9223372036854775808:Int)≤0;decide,by show (0:Int)≤9223372036854775807;decide⟩⟩
 have d6:=(qg P6).appLive (qgu m) j2 i4 v' (by rw[←qg f1];exact U) b7 a8
 have uE:Upd (fun k=>lv.ownBlock=some k) w6 wE:=(Upd.refl _ _).grown b7 (fun k Z _=>Z)
 have c8:=uE.old (qg P6).at_ (fun e=>by
  obtain⟨h0,hc⟩:=zv (qg P6).live g e;exact zx (qg P6).at_ hc (by decide) rfl)
 have k4:wE.frozen? ⟨g,47,none⟩=false:=qo c8 47
 have j9:wE.cell? ⟨g,47,none⟩=some lv:=uE.cell a1 (fun e=>by
  obtain⟨h0,hc⟩:=zv (qg P6).live g e;exact zx (qg P6).at_ hc (by decide) rfl)
 have U7:=qj ((qg U6).trans d6.2)
 have P7:=qj d6.1
 have j6:=qj (qg U6).size
 rw[d9] at U7 P7
 clear U b7 a8 d6 uE c8 a1 b6 HN
 rw[d9]
 clear d9
 go_wp2_with ((with_reducible first|rfl|refine' ut ?_ ?_;rotate_left|refine' uu ?_)<;>intros)
 go_ret2
 have i3:({c2 with xs:=c2.xs++[qgu m]} : Ch)=c.added m:=by
  rw[qg f0,qg e9,qg g8];rfl
 have d5:=qg P7
 rw[i3] at d5
 rw[qg HO]
 refine⟨rfl,⟨_,_,_,d5.wider (fun k Z=> ?_) (fun k Z=> ?_)⟩,qg U7⟩
 ·have:=qg j6;rcases Z with Z | Z
  ·exact .inl Z
  ·exact .inr ⟨by omega,Z.2⟩
 ·rcases Z with Z | Z
  ·exact d5.lt k (.inl Z)
  ·exact Z.2
end
section
open Go.RowKit
structure MsB(w:World)(b:Nat)(m:MsgV):Prop where
 at_:w.heap[b]? = some (.cells m.cells.toArray 101 (0,0))
 len:m.hash.length=32
section
variable {S:Nat→Prop}{w w':World}{b:Nat}{m:MsgV}
theorem MsB.upd(a:MsB w b m)(u:Upd S w w')(n:¬S b):MsB w' b m:=⟨u.old a.at_ n,a.len⟩
theorem MsB.new(a:MsB w b m)(u:qq w w'):MsB w' b m:=a.upd u (fun h=>h)
theorem MsB.lt(a:MsB w b m):b<w.heap.size:=zi a.at_
theorem MsB.row(a:MsB w b m):zt w b 0 38=some m.cells.toArray:=qaj a.at_ 38 (by rw[List.size_toArray,m.len a.len])
theorem MsB.stOk(a:MsB w b m){k:MsgV}(i:k.hash.length=32):stOk w b 0 38 k.cells.toArray=true:=by
 have:=qdk a.at_ (A:=k.cells) (by rw[List.size_toArray,m.len a.len,k.len i]) k.one;rwa [List.size_toArray,m.len a.len] at this
theorem MsB.put(a:MsB w b m){k:MsgV}(i:k.hash.length=32):MsB (w.setCells b 0 k.cells) b k:=by
 refine⟨?_,i⟩;rw[qax a.at_ 0 _,qb5 _ _ (by rw[List.size_toArray,m.len a.len,k.len i])]
theorem MsB.cells(a:MsB w b m):w.cell? ⟨b,0,none⟩=some (.int .i64 m.kind)∧w.cell? ⟨b,1,none⟩=some (.int .u32 m.ch)∧w.cell? ⟨b,2,none⟩=some (.int .u64 m.id)∧w.cell? ⟨b,3,none⟩=some (.int .u64 m.amount)∧w.cell? ⟨b,36,none⟩=some (.int .i64 m.expiry)∧w.cell? ⟨b,37,none⟩=some (.int .i64 m.number)∧zt w b 4 32=some (qw m.hash).toArray:=qr2 m a.at_ a.len
end
theorem qa6(w:World)(m:MsgV)(i:m.hash.length=32):MsB (w.alloc (.cells m.cells.toArray 101)) w.heap.size m:=⟨ql _ _,i⟩
def qhi(w:World)(k:MsgV):World:=(w.alloc (.cells MsgV.zero.cells.toArray 101)).setCells w.heap.size 0 k.cells
theorem qgg(w:World)(k:MsgV)(q:k.hash.length=32):stOk (w.alloc (.cells MsgV.zero.cells.toArray 101)) w.heap.size 0 38 k.cells.toArray=true∧MsB (qhi w k) w.heap.size k∧qq w (qhi w k):=by
 have o:=qa6 w MsgV.zero qu;exact⟨o.stOk q,o.put q,(((Upd.refl (fun _=>False) w).alloc _)).then (zy _) (fun i t e=>by omega)⟩
theorem MsB.agg{w:World}{b:Nat}{m:MsgV}(a:MsB w b m):m.cells.toArray.size=38:=by rw[List.size_toArray,m.len a.len]
theorem qy8(k n:Int)(H:List Value)(h:H.length=32):Tryz.prog.built 101 [(0,.int .i64 k),(6,.int .i64 n),(4,.agg H.toArray)]=some (.int .i64 k :: .int .u32 0 :: .int .u64 0 :: .int .u64 0::(H++[.int .i64 0,.int .i64 n])).toArray:=by
 obtain⟨i,z,q,x,o⟩:=qcv Tryz.zeroMsg;obtain⟨y,v,t⟩:=Tryz.placesMsg;rw[qbc q v x t];rw[qbm (P:=[]) (z:= .int .i64 0) (R:= .int .u32 0 :: .int .u64 0 :: .int .u64 0::(zm.map (Value.int .u8)++[.int .i64 0,.int .i64 0])) rfl rfl rfl o];rw[qbm (P:= .int .i64 k :: .int .u32 0 :: .int .u64 0 :: .int .u64 0::(zm.map (Value.int .u8)++[.int .i64 0])) (z:= .int .i64 0) (R:=[]) rfl rfl rfl (by rfl)];rw[qcq (P:=[.int .i64 k,.int .u32 0,.int .u64 0,.int .u64 0]) (A:=H) (Z:=zm.map (Value.int .u8)) (R:=[.int .i64 0,.int .i64 n]) (off:=4) (by rw[h];rfl) rfl (by rw[h];rfl) (by rfl)];rw[Instr.fill];simp
theorem qvk(k n:Int)(h:List Int)(i:h.length=32)(w:World):(qhq #[(0,.int .i64 k),(6,.int .i64 n),(4,.agg (qw h).toArray)]).run Tryz.prog w = .ok (.agg (MsgV.cells ⟨k,0,0,0,h,0,n⟩).toArray) w :=
 run_build w _ _ _ (qy8 k n (qw h) (by rw[qal,i]))
theorem qy7(k c n:Int)(H:List Value)(h:H.length=32):Tryz.prog.built 101 [(0,.int .i64 k),(1,.int .u32 c),(6,.int .i64 n),(4,.agg H.toArray)]=some (.int .i64 k :: .int .u32 c :: .int .u64 0 :: .int .u64 0::(H++[.int .i64 0,.int .i64 n])).toArray:=by
 obtain⟨i,z,q,x,o⟩:=qcv Tryz.zeroMsg;obtain⟨y,v,t⟩:=Tryz.placesMsg;rw[qbc q v x t];rw[qbm (P:=[]) (z:= .int .i64 0) (R:= .int .u32 0 :: .int .u64 0 :: .int .u64 0::(zm.map (Value.int .u8)++[.int .i64 0,.int .i64 0])) rfl rfl rfl o];rw[qbm (P:=[.int .i64 k]) (z:= .int .u32 0) (R:= .int .u64 0 :: .int .u64 0::(zm.map (Value.int .u8)++[.int .i64 0,.int .i64 0])) rfl rfl rfl (by rfl)];rw[qbm (P:= .int .i64 k :: .int .u32 c :: .int .u64 0 :: .int .u64 0::(zm.map (Value.int .u8)++[.int .i64 0])) (z:= .int .i64 0) (R:=[]) rfl rfl rfl (by rfl)];rw[qcq (P:=[.int .i64 k,.int .u32 c,.int .u64 0,.int .u64 0]) (A:=H) (Z:=zm.map (Value.int .u8)) (R:=[.int .i64 0,.int .i64 n]) (off:=4) (by rw[h];rfl) rfl (by rw[h];rfl) (by rfl)];rw[Instr.fill];simp
theorem qvj(k c n:Int)(h:List Int)(i:h.length=32)(w:World):(qhq #[(0,.int .i64 k),(1,.int .u32 c),(6,.int .i64 n),(4,.agg (qw h).toArray)]).run Tryz.prog w = .ok (.agg (MsgV.cells ⟨k,c,0,0,h,0,n⟩).toArray) w :=
 run_build w _ _ _ (qy7 k c n (qw h) (by rw[qal,i]))
theorem qy4(k o:Int)(H:List Value)(h:H.length=32):Tryz.prog.built 101 [(0,.int .i64 k),(2,.int .u64 o),(4,.agg H.toArray)]=some (.int .i64 k :: .int .u32 0 :: .int .u64 o :: .int .u64 0::(H++[.int .i64 0,.int .i64 0])).toArray:=by
 obtain⟨i,z,t,y,q⟩:=qcv Tryz.zeroMsg;obtain⟨C,x,v⟩:=Tryz.placesMsg;rw[qbc t x y v];rw[qbm (P:=[]) (z:= .int .i64 0) (R:= .int .u32 0 :: .int .u64 0 :: .int .u64 0::(zm.map (Value.int .u8)++[.int .i64 0,.int .i64 0])) rfl rfl rfl q];rw[qbm (P:=[.int .i64 k,.int .u32 0]) (z:= .int .u64 0) (R:= .int .u64 0::(zm.map (Value.int .u8)++[.int .i64 0,.int .i64 0])) rfl rfl rfl (by rfl)];rw[qcq (P:=[.int .i64 k,.int .u32 0,.int .u64 o,.int .u64 0]) (A:=H) (Z:=zm.map (Value.int .u8)) (R:=[.int .i64 0,.int .i64 0]) (off:=4) (by rw[h];rfl) rfl (by rw[h];rfl) (by rfl)];rw[Instr.fill];simp
theorem qvi(k i:Int)(h:List Int)(o:h.length=32)(w:World):(qhq #[(0,.int .i64 k),(2,.int .u64 i),(4,.agg (qw h).toArray)]).run Tryz.prog w = .ok (.agg (MsgV.cells ⟨k,0,i,0,h,0,0⟩).toArray) w :=
 run_build w _ _ _ (qy4 k i (qw h) (by rw[qal,o]))
theorem qs1(k i n:Int)(w:World):(qhq #[(0,.int .i64 k),(2,.int .u64 i),(6,.int .i64 n)]).run Tryz.prog w = .ok (.agg (MsgV.cells ⟨k,0,i,0,zm,0,n⟩).toArray) w:=run_build w _ _ _ (by kernel_rfl)
section
variable {w:World}{g:Nat}{S:Nat→Prop}{c:Ch}{lv nv av:Value}
theorem ChP.putSigned(h:ChP w g S c lv nv av)(n:Int)(i:0≤n∧n≤65535):ChP (w.setCell ⟨g,37,none⟩ (.int .i64 n)) g S {c with k:= {c.k with signed:=n}} lv nv av :=
 h.put (qxe c lv nv av h.ok.s.seed n) ⟨h.ok.s,i,h.ok.heard,h.ok.nextOwn,h.ok.nextTheirs,h.ok.loc,h.ok.rem,h.ok.xs,h.ok.few,h.ok.shelf,h.ok.news,h.ok.last,h.ok.many⟩ rfl rfl rfl
theorem ChP.putHeard(h:ChP w g S c lv nv av)(n:Int)(i:0≤n∧n<4294967296):ChP (w.setCell ⟨g,38,none⟩ (.int .i64 n)) g S {c with k:= {c.k with heard:=n}} lv nv av :=
 h.put (q1h c lv nv av h.ok.s.seed n) ⟨h.ok.s,h.ok.signed,i,h.ok.nextOwn,h.ok.nextTheirs,h.ok.loc,h.ok.rem,h.ok.xs,h.ok.few,h.ok.shelf,h.ok.news,h.ok.last,h.ok.many⟩ rfl rfl rfl
theorem ChP.putAwaits(h:ChP w g S c lv nv av)(b:Bool):ChP (w.setCell ⟨g,39,none⟩ (.bool b)) g S {c with k:= {c.k with awaits:=b}} lv nv av :=
 h.put (qxc c lv nv av h.ok.s.seed b) ⟨h.ok.s,h.ok.signed,h.ok.heard,h.ok.nextOwn,h.ok.nextTheirs,h.ok.loc,h.ok.rem,h.ok.xs,h.ok.few,h.ok.shelf,h.ok.news,h.ok.last,h.ok.many⟩ rfl rfl rfl
theorem ChP.putShutHeard(h:ChP w g S c lv nv av)(b:Bool):ChP (w.setCell ⟨g,43,none⟩ (.bool b)) g S {c with k:= {c.k with shutHeard:=b}} lv nv av :=
 h.put (qo9 c lv nv av h.ok.s.seed b) ⟨h.ok.s,h.ok.signed,h.ok.heard,h.ok.nextOwn,h.ok.nextTheirs,h.ok.loc,h.ok.rem,h.ok.xs,h.ok.few,h.ok.shelf,h.ok.news,h.ok.last,h.ok.many⟩ rfl rfl rfl
theorem ChP.putRevoked(h:ChP w g S c lv nv av)(b:Bool):ChP (w.setCell ⟨g,44,none⟩ (.bool b)) g S {c with k:= {c.k with revoked:=b}} lv nv av :=
 h.put (qux c lv nv av h.ok.s.seed b) ⟨h.ok.s,h.ok.signed,h.ok.heard,h.ok.nextOwn,h.ok.nextTheirs,h.ok.loc,h.ok.rem,h.ok.xs,h.ok.few,h.ok.shelf,h.ok.news,h.ok.last,h.ok.many⟩ rfl rfl rfl
theorem qos(w:World)(g i:Nat)(v:Value):Upd (· = g) w (w.setCell ⟨g,i,none⟩ v):=(Upd.refl _ _).set1 i v
theorem ChP.seed(h:ChP w g S c lv nv av):zt w g 3 32=some (qw c.s.seed).toArray:=by
 have i:=h.ok.s.seed;have o:3+32≤(c.v lv nv av).cells.toArray.size:=by
  rw[List.size_toArray];unfold ChanV.cells;rw[List.length_append,(c.v lv nv av).setup.len i];omega
 rw[qby h.at_ 3 32 o];congr 1;apply Array.ext';rw[Array.toList_extract];unfold ChanV.cells;show List.extract (c.s.cells++_) 3 35=qw c.s.seed;unfold SetupV.cells;simp[i,qw]
theorem ChP.key(h:ChP w g S c lv nv av):w.cell? ⟨g,35,none⟩=some (.string c.s.key):=(h.toR.low 35 (by omega)).trans (c.s.c35 h.ok.s.seed)
theorem ChP.peer(h:ChP w g S c lv nv av):w.cell? ⟨g,36,none⟩=some (.string c.s.peer):=(h.toR.low 36 (by omega)).trans (c.s.c36 h.ok.s.seed)
theorem ChP.base(h:ChP w g S c lv nv av):zt w g 45 2=some #[.int .u64 c.loc,.int .u64 c.rem]:=by
 have q:=h.ok.s.seed;have o:(c.v lv nv av).cells=c.s.cells++(c.k.cells++([.int .u64 c.loc,.int .u64 c.rem]++(lv::((c.v lv nv av).told++[nv,av])))):=rfl;have i:c.s.cells.length=37:=c.s.len q;have t:45+2≤(c.v lv nv av).cells.toArray.size:=by
  rw[List.size_toArray,o,List.length_append,List.length_append,List.length_append,i];show 45+2≤37+(8+(2+_));omega
 rw[qby h.at_ 45 2 t];congr 1;apply Array.ext';rw[Array.toList_extract,o];show List.extract (c.s.cells++_) 45 47=_;rw[List.extract_eq_take_drop,List.drop_append,i,List.drop_of_length_le (by omega),List.nil_append];show List.take 2 (List.drop 8 (c.k.cells++_))=_;rw[List.drop_append_of_le_length (by show 8≤8;omega)];rfl
end
def q8t(x:Value):Sem Value:=Instr.loadAt 59 x
theorem qll(x:Value):Instr.loadAt 59 x=q8t x:=rfl
theorem q4j(b o:Nat)(w:World):(q8t (.pointer (some ⟨b,o,none⟩))).run Tryz.prog w=match zt w b o 2 with | some A=> .ok (.agg A) w | none=>qc3 Tryz.prog 59 w b o :=
 qag 59 2 _ Tryz.underlying59 rfl Tryz.infoBase b o w
def qbp(base:Nat)(w:World)(v:Value)(i:List MsgV):Prop:=w.ownsRow base 101 38 v i.length (i.flatMap MsgV.cells)
theorem qbp.nil(base:Nat)(w:World):qbp base w qcb []:=World.ownsRow_nil _ _ _ _
end
section
open Go.RowKit Go.Shelf
attribute [local go_sem] Oper.semAt_some
def hiB(i d k:Nat):List Nat:=((List.range' k (d-k)).reverse).filter fun b=>i.testBit b
theorem q7g(i d:Nat):hiB i d d=[]:=by simp[hiB]
theorem qtx{i d k:Nat}(h:k<d):hiB i d k=hiB i d (k+1)++(if i.testBit k then [k] else []):=by
 unfold hiB;rw[show d-k=(d-(k+1))+1 by omega,List.range'_succ,List.reverse_cons,List.filter_append];cases m:i.testBit k<;>simp[m]
theorem qnk{i d:Nat} : ∀ {k:Nat},k≤d→hiB i d k <+: hiB i d 0
 | 0,_=>List.prefix_refl _
 | k+1,h=>by
  refine List.IsPrefix.trans ?_ (qnk (k:=k) (by omega));rw[qtx (show k<d by omega)];exact List.prefix_append _ _
def hiF(i d k:Nat):List (Fin 16):=(hiB i d k).map (Fin.ofNat 16)
theorem q7h(i d:Nat):hiF i d d=[]:=by unfold hiF;rw[q7g];rfl
theorem q38{i d k:Nat}(h:k<d)(m:k<16):hiF i d k=hiF i d (k+1)++(if i.testBit k then [⟨k,m⟩] else []):=by
 unfold hiF;rw[qtx h,List.map_append];have e:Fin.ofNat 16 k=⟨k,m⟩:=Fin.ext (Nat.mod_eq_of_lt m);cases i.testBit k<;>simp[e]
theorem qwb{i d k:Nat}(h:k≤d):hiF i d k <+: hiF i d 0:=by
 obtain⟨r,m⟩:=qnk (i:=i) h;exact⟨r.map (Fin.ofNat 16),by unfold hiF;rw[←List.map_append,m]⟩
theorem q7i{i d:Nat}(hd:d≤16):(hiF i d 0).map (·.1)=hiB i d 0:=by
 unfold hiF;rw[List.map_map];refine(List.map_congr_left (g:=id) fun b m=> ?_).trans (List.map_id _);have:b<16:=by
  unfold hiB at m;rw[List.mem_filter,List.mem_reverse,List.mem_range'_1] at m;omega
 exact Nat.mod_eq_of_lt this
theorem q71(i k:Nat):(i:Int) / 2 ^ k=((i / 2 ^ k:Nat):Int):=by
 rw[Int.natCast_ediv];rfl
theorem q6r(x:Nat)(h:x<9223372036854775808):bits .and .i64 (x:Int) 1=((x%2:Nat):Int):=by
 show IntKind.i64.wrap ((BitVec.ofInt 64 (x:Int) &&& BitVec.ofInt 64 (1:Int)).toNat:Int)=_;rw[BitVec.toNat_and,qeo _ (by omega),show (BitVec.ofInt 64 (1:Int)).toNat=1 from rfl,Nat.and_one_is_mod,qmm _ (by omega)]
theorem q2o(i k:Nat)(h:i<65536):(bits .and .i64 ((i:Int) / 2 ^ k) 1==1)=i.testBit k:=by
 have m:i / 2 ^ k<65536:=Nat.lt_of_le_of_lt (Nat.div_le_self _ _) h;rw[q71,q6r _ (by omega),Nat.testBit_eq_decide_div_mod_eq];rcases Nat.mod_two_eq_zero_or_one (i / 2 ^ k) with e | e<;>rw[e]<;>rfl
def KpB(B:Nat)(W i:World):Prop:=∀v,W.cell? ⟨B,0,none⟩=some v→i.cell? ⟨B,0,none⟩=some v
theorem q43(F:Fence)(n:Nat)(Z:F.fn 232)(O:F.round=none)(hn:1≤n)(l Bd Bi:Nat)(i d:Nat)(hi:i<65536)(hd:d≤16)(J Jx:List (Fin 16)→World→Prop)
  (hY:∀pre x W,J pre W→pre.length<16→YieldAt F (n-1) Tryz.prog l #[.int .i64 (x.1:Nat)] W fun e w =>
   (e = .returned (.bool true)∧J (pre++[x]) w∧KpB Bi W w)∨(e = .returned (.bool false)∧Jx (pre++[x]) w))
  (W:World) (a1:W.cell? ⟨Bd,0,none⟩=some (.int .i64 d)) (I:W.cell? ⟨Bi,0,none⟩=some (.int .i64 i)) (Y:J [] W) :
  CallsIn F n Tryz.prog 232 #[.func (.yield l) #[] #[],.pointer (some ⟨Bd,0,none⟩),.pointer (some ⟨Bi,0,none⟩)] W fun e w=>(∃v,e = .returned v) ∧
   ((∃V,V=hiF i d 0∧J V w)∨(∃pre,pre <+: hiF i d 0∧Jx pre w)):=by
 refine callsIn_of_wp Tryz.func232 rfl Z ?_ O
 simp only[Tryz.ntmps232,List.size_toArray,List.length_cons,List.length_nil,Nat.reduceAdd,Nat.reduceSub,Array.replicate_succ,Array.replicate_zero,List.push_toArray,List.append_toArray,List.nil_append,List.cons_append]
 have hw:IntKind.i64.wrap ((d:Int)-1)=(d:Int)-1:=by rw[IntKind.wrap_i64];omega
 gi_wp2
 gi_loopw [4] (fun p wr=>∃k:Nat,p = .int .i64 ((k:Int)-1)∧k≤d∧J (hiF i d k) wr∧wr.cell? ⟨Bi,0,none⟩=some (.int .i64 i)) (fun p wr=>(intOf p+1).toNat)
 case atStart=>exact⟨d,by simp,Nat.le_refl _,by rw[q7h];exact Y,I⟩
 case round =>
  obtain⟨k,rfl,hk,H,t⟩:=hrel;cases k with
  | zero =>
   gi_wp2;go_end0;exact⟨⟨_,rfl⟩,.inl ⟨hiF i d 0,rfl,H⟩⟩
  | succ k =>
   have M:((k+1:Nat):Int)-1=(k:Int):=by omega
   rw[M];have a2:(0:Int)≤(k:Int):=by omega
   have D:(hiF i d (k+1)).length<16:=by
    unfold hiF hiB;rw[List.length_map];refine Nat.lt_of_le_of_lt (List.length_filter_le _ _) ?_;simp;omega
   obtain⟨fn,tmps,E,R,U,T⟩:=hY (hiF i d (k+1)) ⟨k,by omega⟩ wr H D;dsimp only at U;have o:=q2o i k hi;have m:=q38 (i:=i) (show k<d from hk) (by omega);cases q:i.testBit k with
   | true =>
    rw[q,if_pos rfl] at m;rw[q] at o;have y:=qj m;clear m;gi_wp2;refine T.mono ?_;rintro e X (⟨rfl,K,N⟩ | ⟨rfl,C⟩)
    ·have z:X.cell? ⟨Bi,0,none⟩=some (.int .i64 i):=N _ t;have P:IntKind.i64.wrap ((k:Int)-1)=(k:Int)-1:=by rw[IntKind.wrap_i64];omega
     gi_wp2;go_roundw
     case rel=>exact⟨k,rfl,by omega,by rw[qg y];exact K,z⟩
     case measure=>simp[intOf]
    ·gi_wp2;refine bodyPost_ret (results_none rfl _ _ _) rfl ?_;refine⟨⟨_,rfl⟩,.inr ⟨hiF i d (k+1)++[⟨k,by omega⟩],?_,C⟩⟩;rw[←qg y];exact qwb (by omega)
   | false =>
    rw[q,if_neg (by simp),List.append_nil] at m;rw[q] at o;have P:IntKind.i64.wrap ((k:Int)-1)=(k:Int)-1:=by rw[IntKind.wrap_i64];omega
    rw[←m] at H;clear m T U;gi_wp2;refine⟨fun _ h=>(by cases h),?_⟩;gi_wp2;go_roundw
    case rel=>exact⟨k,rfl,by omega,H,t⟩
    case measure=>simp[intOf]
end
end Go.Proofs.YtfmkdoachjgjbaaGreatDoor
