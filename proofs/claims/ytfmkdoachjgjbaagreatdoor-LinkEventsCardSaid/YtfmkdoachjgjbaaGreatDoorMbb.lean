/-
  Lives as flat rows of cells; slices.Clone (all of it stands in XLv now).
-/
import Derived.Test.YtfmkdoachjgjbaaGreatDoorVw5
import Derived.Test.YtfmkdoachjgjbaaGreatDoorMaf
import Derived.Test.YtfmkdoachjgjbaaGreatDoorCh4
import Derived.Test.YtfmkdoachjgjbaaGreatDoorMaj
set_option maxRecDepth 100000
set_option maxHeartbeats 4000000
set_option linter.unusedVariables false
set_option linter.unusedSimpArgs false
namespace Go.Proofs.YtfmkdoachjgjbaaGreatDoor
section
end
section
open Go.RowKit Go.Sort
theorem q6e(x:Live)(s:Int):qo {x with state:=s} = (qo x).set 36 (.int .i64 s):=by
 unfold qo;rw[List.set_append_right _ _ (by rw[qbj];omega),qbj];rfl
theorem qdy.setState{w:World}{g off:Nat}{X:List Live}(h:qdy w g off X){n:Nat}{x:Live}(z:X[n]? = some x)(s:Int) :
  qdy (w.setCell ⟨g,off+n*38+36,none⟩ (.int .i64 s)) g off (X.set n {x with state:=s}):=by
 obtain⟨C,T,E,H,q⟩:=h
 refine⟨_,T,qad E _ _,by rw[Array.size_setIfInBounds,List.length_set];exact H,fun i y f j r=> ?_⟩
 have v:=(List.getElem?_eq_some_iff.1 z).1
 have F:off+n*38+38≤C.size:=by have:=Nat.mul_le_mul_right 38 (show n+1≤X.length from v);omega
 rw[Array.getElem?_setIfInBounds]
 rw[List.getElem?_set] at f
 by_cases e:n=i
 ·subst e;rw[if_pos rfl,if_pos v,Option.some.injEq] at f;subst f;rw[q6e,List.getElem?_set];by_cases m:36=j
  ·subst m;rw[if_pos rfl,if_pos (by omega),if_pos rfl,if_pos (by rw[qbo];omega)]
  ·rw[if_neg (by omega),if_neg m];exact q n x z j r
 ·rw[if_neg e] at f;rw[if_neg ?_]
  ·exact q i y f j r
  ·rcases Nat.lt_or_gt_of_ne e with h | h
   ·have:=Nat.mul_le_mul_right 38 (show n+1≤i from h);omega
   ·have:=Nat.mul_le_mul_right 38 (show i+1≤n from h);omega
attribute [local go_sem ↓ high] qbf qbs
attribute [local go_sem] qdo qd2
def aft(ev:Int)(x:Live):Live:= {x with state:=qcw x.state x.own ev}
def qae(ev:Int)(xs:List Live):List Live:=xs.map (aft ev)
theorem qn5(v:Value)(xs:List Live)(ev:Int)(hl:xs.length≤1048576)(w:World)(hG:Glob w)(hv:qgx w v xs) :
  Calls Tryz.prog 155 #[v,.int .i64 ev] w fun e w'=>∃u,e = .returned u∧qq w w'∧qn1 w.heap.size w' u (qae ev xs):=by
 have a7:∃a k c,v = .slice a k c:=by
  rcases hv with ⟨_,_,rfl,_⟩ | ⟨g,off,cap,rfl,_⟩
  ·exact⟨_,_,_,rfl⟩
  ·exact⟨_,_,_,rfl⟩
 obtain⟨va,vk,vc,rfl⟩:=a7
 go_enter Tryz.func155,Tryz.ntmps155
 go_wp2_with fail
 refine(qp9 _ xs hl w hv).mono ?_
 rintro e w1 ⟨u,rfl,n1,⟨ua,uc,rfl,rfl⟩ | ⟨g,cap,rfl,hg,hh⟩⟩
 ·obtain⟨N,rfl⟩:∃N:World,N=w1:=⟨_,rfl⟩;go_wp2_with fail
  go_loopw [12] (fun S wr=>S = .int .i64 0∧wr=N) (fun _ _=>0)
  case atStart=>exact⟨rfl,rfl⟩
  case round =>
   obtain⟨rfl,rfl⟩:=hrel;go_wp2
   first | go_ret2 | go_ret
   exact⟨_,rfl,n1,.inl ⟨_,_,rfl,rfl⟩⟩
 ·have b4:=hG.new n1;obtain⟨N,rfl⟩:∃N:World,N=w1:=⟨_,rfl⟩;go_wp2_with fail
  go_loopw [12] (fun S wr=>∃n:Nat,S = .int .i64 (n:Int)∧n≤xs.length∧Hid (qdy wr g 0 (qae ev (xs.take n)++xs.drop n))∧qq w wr) (fun S _=>xs.length-(intOf S).toNat)
  case atStart=>exact⟨0,rfl,Nat.zero_le _,qb (by simpa [qae] using hh),n1⟩
  case round =>
   obtain⟨n,rfl,hn,Y,nr⟩:=hrel;by_cases K:n<xs.length
   ·obtain⟨x,hx⟩:∃x,xs[n]? = some x:=⟨_,List.getElem?_eq_getElem K⟩;have H:(qae ev (xs.take n)++xs.drop n)[n]? = some x:=by
     have J:(qae ev (xs.take n)).length=n:=by simp[qae];omega
     rw[List.getElem?_append_right (by omega),J,Nat.sub_self,List.getElem?_drop,Nat.add_zero];exact hx
    have E:=qa Y;have q:=E.row H;rw[Nat.zero_add] at q;have f:=E.setState H (qcw x.state x.own ev);obtain⟨CC,TT,i,M,z⟩:=id E;have b5:(n:Int)<(xs.length:Int):=by omega
    have R:stOk (wr.alloc (.cells #[.int .u64 0,.int .u64 0,.int .u8 0,.int .u8 0,.int .u8 0,.int .u8 0,.int .u8 0,.int .u8 0,.int .u8 0,.int .u8 0,.int .u8 0,.int .u8 0,.int .u8 0,.int .u8 0,.int .u8 0,.int .u8 0,.int .u8 0,.int .u8 0,.int .u8 0,.int .u8 0,.int .u8 0,.int .u8 0,.int .u8 0,.int .u8 0,.int .u8 0,.int .u8 0,.int .u8 0,.int .u8 0,.int .u8 0,.int .u8 0,.int .u8 0,.int .u8 0,.int .u8 0,.int .u8 0,.int .i64 0,.bool false,.int .i64 0,.bool false] 69)) wr.heap.size 0 38 (qo x).toArray=true:=qd0 (qj _ _) (by decide) (by rw[List.size_toArray,qbo]) (by rw[List.all_toArray,List.all_eq_true];exact qfc x);have m:=qk2 wr #[.int .u64 0,.int .u64 0,.int .u8 0,.int .u8 0,.int .u8 0,.int .u8 0,.int .u8 0,.int .u8 0,.int .u8 0,.int .u8 0,.int .u8 0,.int .u8 0,.int .u8 0,.int .u8 0,.int .u8 0,.int .u8 0,.int .u8 0,.int .u8 0,.int .u8 0,.int .u8 0,.int .u8 0,.int .u8 0,.int .u8 0,.int .u8 0,.int .u8 0,.int .u8 0,.int .u8 0,.int .u8 0,.int .u8 0,.int .u8 0,.int .u8 0,.int .u8 0,.int .u8 0,.int .u8 0,.int .i64 0,.bool false,.int .i64 0,.bool false] 69 (qo x) (by rw[qbo];rfl);have U:=qfo x;have V:=qfp x;have P:=qbo x;have HX:=qb hx;have I:=qb H;clear hx H f i M z E hh;generalize qo x=C at q R m U V P;go_upto_region 5 with fail;obtain⟨r,T⟩:=m;generalize (wr.alloc (.cells #[.int .u64 0,.int .u64 0,.int .u8 0,.int .u8 0,.int .u8 0,.int .u8 0,.int .u8 0,.int .u8 0,.int .u8 0,.int .u8 0,.int .u8 0,.int .u8 0,.int .u8 0,.int .u8 0,.int .u8 0,.int .u8 0,.int .u8 0,.int .u8 0,.int .u8 0,.int .u8 0,.int .u8 0,.int .u8 0,.int .u8 0,.int .u8 0,.int .u8 0,.int .u8 0,.int .u8 0,.int .u8 0,.int .u8 0,.int .u8 0,.int .u8 0,.int .u8 0,.int .u8 0,.int .u8 0,.int .i64 0,.bool false,.int .i64 0,.bool false] 69)).setCells wr.heap.size 0 C=X at r T ⊢
    have a8:X.cell? ⟨wr.heap.size,35,none⟩=some (.bool x.own):=by rw[qg r,List.getElem?_toArray];exact U
    have b3:X.cell? ⟨wr.heap.size,36,none⟩=some (.int .i64 x.state):=by rw[qg r,List.getElem?_toArray];exact V
    have Z:Glob X:=hG.new (nr.trans T);clear R q;go_wp2_with fail;refine(qux x.state ev x.own X Z).mono ?_;rintro e W ⟨rfl,q2⟩;have F:qdy W g 0 (qae ev (xs.take n)++xs.drop n):=((qa Y).upd T (fun h=>h)).upd (q2.upd (fun _=>False)) (fun h=>h);have f:=F.setState (qa I) (qcw x.state x.own ev);have L:=F.row (qa I);obtain⟨CC,TT,i,M,z⟩:=id F;have b6:W.cell? ⟨g,n*38+36,none⟩=some (.int .i64 x.state):=by
     rw[qg i];have:=z n x (qa I) 36 (by decide);rw[Nat.zero_add] at this;rw[this,qfp]
    have b7:W.frozen? ⟨g,n*38+36,none⟩=false:=qv i _;rw[Nat.zero_add] at f;have O:=qb f;have n2:qq w W:=(nr.trans T).then (q2.upd (fun _=>False)) (fun _ _ h=>h.elim);clear f L i M z F a8 b3 r T;go_wp2;go_roundw
    case rel =>
     refine⟨n+1,by go_num,by omega,qb ?_,n2.setCell (fun h=>by have h1:g<w.heap.size:=h;omega) _⟩;have:=qa O;have e:(qae ev (xs.take n)++xs.drop n).set n {x with state:=qcw x.state x.own ev} = qae ev (xs.take (n+1))++xs.drop (n+1):=by
      have J:(qae ev (xs.take n)).length=n:=by simp[qae];omega
      rw[List.set_append_right _ _ (by omega),J,Nat.sub_self,List.take_add_one,qa HX];have hd:xs.drop n=x::xs.drop (n+1):=by
       rw[List.drop_eq_getElem_cons K];congr 1;have:=qa HX;rw[List.getElem?_eq_getElem K] at this;exact Option.some.inj this
      rw[hd];simp[qae,aft]
     rwa [e] at this
    case measure=>simp[intOf];omega
   ·obtain rfl:n=xs.length:=by omega
    have hf:qdy wr g 0 (qae ev xs):=by have:=qa Y;simpa using this
    have a6:(qae ev xs).length=xs.length:=by simp[qae]
    have HF:=qb hf;clear hf hh;go_wp2
    first | go_ret2 | go_ret
    exact⟨_,rfl,nr,.inr ⟨g,0,_,by rw[a6];rfl,hg,(qa HF).toL⟩⟩
end
section
open Go.RowKit
attribute [local go_sem ↓ high] qbf qbs qci qgk
attribute [local go_sem] qdo qd2 qfl qr1 qx
def qcr(c:Ch)(x:Live):Ch:=if x.state=9 then c.give (x.own != x.paid) x.h.amount else c
def qet(xs:List Live):List Live:=xs.filter fun x=> !(x.state==9)
def Ch.goOn(c:Ch)(ev:Int):Ch:= {(qae ev c.xs).foldl qcr c with xs:=qet (qae ev c.xs)}
theorem qxk{xs:List Live}{i:Nat}{x:Live}(f:xs[i]? = some x):qet (xs.take (i+1))=qet (xs.take i)++(if x.state=9 then [] else [x]):=by
 unfold qet;rw[List.take_add_one,f,List.filter_append];by_cases h:x.state=9<;>simp[h]
theorem qw0{xs:List Live}{i:Nat}{x:Live}(c:Ch)(f:xs[i]? = some x):(xs.take (i+1)).foldl qcr c=qcr ((xs.take i).foldl qcr c) x:=by
 rw[List.take_add_one,f,List.foldl_append];rfl
theorem q1y{st:Int}(h : -9223372036854775808≤st∧st≤9223372036854775807)(own:Bool)(ev:Int) : -9223372036854775808≤qcw st own ev∧qcw st own ev≤9223372036854775807:=by
 unfold qcw;split
 ·rename_i f;have:=f.1;unfold qlz at this;simp at this;omega
 ·exact h
theorem q3q{x:Live}(h:LiveOk x)(ev:Int):LiveOk (aft ev x):=⟨h.h,q1y h.state _ _⟩
theorem ChP.newLive{R C:World}{g:Nat}{S:Nat→Prop}{c:Ch}{V P N:Value}(h:ChP R g S c V P N)(w0:World)(u:Upd (· = g) w0 R)(u2:qq R C)(z:Value)(F:List Live)(Z:∀y∈F,LiveOk y)(J:F.length≤1000000)(i:C.ownsRow w0.heap.size 69 38 z F.length (F.flatMap qo)) :
  ChP (C.setCell ⟨g,47,none⟩ z) g (Fr S w0 (C.setCell ⟨g,47,none⟩ z)) {c with xs:=F} z P N:=by
 have H:=h.new u2
 have M:Upd (· = g) C (C.setCell ⟨g,47,none⟩ z):=(Upd.refl _ _).set1 47 _
 have E:=qad H.at_ 47 z
 rw[qvi c V P N h.ok.s.seed F] at E
 have K:∀k,z.ownBlock=some k→w0.heap.size≤k:=by
  intro k f;rcases i.2 with ⟨e,_⟩ | ⟨U,cap,q,e,W,_⟩
  ·rw[e] at f;simp[Value.ownBlock] at f
  ·rw[e] at f;simp[Value.ownBlock] at f;omega
 have L:∀k,z.ownBlock=some k→k<C.heap.size:=fun k f=>by
  obtain⟨q,O⟩:=qa3 i k f;exact zr O
 have m:C.ownsRow 0 69 38 z F.length (F.flatMap qo):=by
  refine⟨i.1,?_⟩;rcases i.2 with e | ⟨U,cap,q,e,W,r⟩
  ·exact .inl e
  ·exact .inr ⟨U,cap,q,e,Nat.zero_le _,r⟩
 have I:∀ {T:TypeId} {v:Value} {n:Nat} {xs:List Value},T≠126→C.ownsRow 0 T 38 v n xs→∀k,v.ownBlock=some k→k≠g:=by
  intro T v n xs X Y k f e;obtain⟨q,O⟩:=qa3 Y k f;exact qbe O H.at_ X e
 have hz:=M.size
 refine⟨E,⟨h.ok.s,h.ok.signed,h.ok.heard,h.ok.nextOwn,h.ok.nextTheirs,h.ok.loc,h.ok.rem,Z,J,h.ok.shelf,h.ok.news,h.ok.last,h.ok.many⟩,?_,?_,?_,.inl h.inG,?_,fun k e=> .inl (h.inN k e),fun k e=> .inl (h.inA k e),h.sep,?_⟩
 ·exact qac m M (fun k f e=>I (by decide) m k f e)
 ·exact qac H.news M (fun k f e=>I (by decide) H.news k f e)
 ·exact qac H.last M (fun k f e=>I (by decide) H.last k f e)
 ·intro k f;have:=L k f;exact .inr ⟨K k f,by omega⟩
 ·rintro k (f | f)
  ·have:=H.lt k f;omega
  ·exact f.2
theorem qkv(g:Nat)(S:Nat→Prop)(c:Ch)(ev:Int)(w:World)(h:ChS w g S c)(hG:Glob w) :
  Calls Tryz.prog 119 #[.pointer (some ⟨g,0,none⟩),.int .i64 ev] w fun e w'=>e = .returned (.tuple #[])∧ChS w' g (Fr S w w') (c.goOn ev)∧Upd S w w':=by
 obtain⟨lv,nv,av,h⟩:=h
 have J:w.cell? ⟨g,47,none⟩=some lv:=h.toR.live
 have K:=qn5 lv c.xs ev (by have:=h.ok.few;omega) w hG h.toI.lives
 obtain⟨i9,z9,b9,d6,f1,e8,e9,f0,d5⟩:=qkc
 have N:=qb h
 obtain⟨la,f5,e1⟩:=qaf h.live
 rw[e1] at J K
 clear h
 go_enter Tryz.func119,Tryz.ntmps119
 go_wp2_with fail
 refine K.mono ?_
 rintro e w1 ⟨u,rfl,n1,hu⟩
 obtain⟨ua,f6,rfl,z⟩:=hu.row
 have b3:(qae ev c.xs).length≤1000000:=by have:=(qa N).ok.few;simp[qae];omega
 have b6:∀y∈qae ev c.xs,LiveOk y:=by
  intro y hy;obtain⟨x,hx,rfl⟩:=List.mem_map.1 hy;exact q3q ((qa N).ok.xs x hx) ev
 have a7:c.goOn ev = {(qae ev c.xs).foldl qcr c with xs:=qet (qae ev c.xs)} := rfl
 have c0:=qb a7
 have d0:=qb b6
 clear K hu J b6 a7
 generalize e7:qae ev c.xs=r at *
 clear e7
 have h1:=(qa N).new n1
 have f3:g<w.heap.size:=zr (qa N).at_
 have g5:(r.length:Int)≤1000000:=by omega
 have d3:=qb h1
 have g7:=n1.size
 clear h1
 go_wp2_with fail
 go_loopw [4,6,14] (fun kv _ iv wr=>∃i:Nat,iv = .int .i64 (i:Int)∧i≤r.length∧wr.ownsRow w1.heap.size 69 38 kv (qet (r.take i)).length ((qet (r.take i)).flatMap qo)∧Hid (ChP wr g S ((r.take i).foldl qcr c) lv nv av)∧Upd (· = g) w1 wr) (fun _ _ iv _=>r.length-(intOf iv).toNat)
 case atStart=>exact⟨0,rfl,Nat.zero_le _,World.ownsRow_nil _ _ _ _,d3,Upd.refl _ _⟩
 case round =>
  obtain⟨i,rfl,hi,v,HC,nr⟩:=hrel;obtain⟨E,rfl⟩:∃E:World,E=wr:=⟨_,rfl⟩;obtain⟨ka,b7,d9⟩:=qaf v;subst d9;by_cases e0:i<r.length
  ·obtain⟨x,F⟩:∃x,r[i]? = some x:=⟨_,List.getElem?_eq_getElem e0⟩;obtain⟨g',off,rfl,Y,hh⟩:=z i x F;have b5:=(hh.upd nr (fun e=>by omega)).row F;have g4:(i:Int)<(r.length:Int):=by omega
   have e5:=qjw E x;have M:=qjq E x;have a8:=qxk F;have Z:=qw0 c F;have g6:(qet (r.take i)).length≤i:=by
    unfold qet;refine Nat.le_trans (List.length_filter_le _ _) ?_;rw[List.length_take];omega
   have HO:=qb v;have HK:=qb a8;have HT:=qb Z;clear a8 Z F hh z v;go_upto_region 4 with fail;obtain⟨H,P⟩:=M;generalize (E.alloc (.cells (qo Live.zero).toArray 69)).setCells E.heap.size 0 (qo x)=wb at H P ⊢;have d2:wb.cell? ⟨E.heap.size,36,none⟩=some (.int .i64 x.state):=by rw[qg H,List.getElem?_toArray];exact qfp x
   have e4:=nr.size;have g3:w1.heap.size≤E.heap.size:=e4;have R:=qb ((qa HC).new P);have b8:=nr.then (P.mono (T:=fun _=>False) (fun _ _ h=>h)) (fun _ _ h=>h.elim);clear e5 b5;by_cases O:x.state=9
   ·have f7:wb.cell? ⟨E.heap.size,35,none⟩=some (.bool x.own):=by rw[qg H,List.getElem?_toArray];exact qfo x
    have f8:wb.cell? ⟨E.heap.size,37,none⟩=some (.bool x.paid):=by rw[qg H,List.getElem?_toArray];exact qns x
    have d1:wb.cell? ⟨E.heap.size,1,none⟩=some (.int .u64 x.h.amount):=by rw[qg H,List.getElem?_toArray];exact q6c x
    have a6:=fun(W:World) (q:Q wb W)=>q04 g S _ lv nv av (x.own != x.paid) x.h.amount W ((qa R).upd (q.upd (fun _=>False)) (fun _ _ h=>h))
    have U:=qb a6;rw[O] at d2;clear a6 H;go_wp2_with fail;refine(qa U _ (Q.refl _)).mono ?_;rintro e w2 ⟨rfl,b4,u2⟩;have L:qcr ((r.take i).foldl qcr c) x=((r.take i).foldl qcr c).give (x.own != x.paid) x.h.amount:=by unfold qcr;rw[if_pos O]
    have c8:=qb b4;have f2:=b8.trans u2;have c6:=qb (qac (qac (qa HO) P (fun _ _ h=>h)) u2 (fun k f e=>by
     have Y:=(qa HO);rcases Y.2 with ⟨e,_⟩ | ⟨g2,cap,V,X,e3,_⟩
     ·rw[e] at f;simp[Value.ownBlock] at f
     ·rw[X] at f;simp[Value.ownBlock] at f;omega))
    clear b4 U;go_wp2_with fail;go_roundw
    case rel =>
     refine⟨i+1,by go_num,by omega,?_,?_,f2⟩
     ·rw[qa HK,if_pos O,List.append_nil];exact qa c6
     ·rw[qa HT,L];exact c8
    case measure=>simp[intOf];omega
   ·have g0:(x.state==9)=false:=by simpa using O
    have g8:=qas H 38 (by rw[List.size_toArray,qbo]);have e6:=qbo x;have HB:=qb H;have c7:=qb (qac (qa HO) P (fun _ _ h=>h));have g1:wb.heap.size=wb.heap.size:=rfl;have f4:=P.size;clear H;go_wp2_with (at_builtin;refine wpList_append_own _ rfl (.tmp 31) (.tmp 33) 46 rfl w1.heap.size 69 i9 _ 38 b9 Tryz.underlying46 d6 f1 e8 e9 f0 (by decide) _ _ _ rfl ((qa c7).alloc _) ⟨wb.heap.size,0,none⟩ 1 1 (qo x) rfl (by rw[e6]) ?c1 (qfc x) ?c3 ?c4 ?c5 ?_)
    case c3=>unfold maxLen;omega
    case c4=>have:=Nat.mul_le_mul (show (qet (r.take i)).length+1≤1000000 by omega) d5;omega
    case c5=>omega
    intro v' w5 C m _;obtain⟨a5,k5,c5,rfl⟩:=ql1 C;have hO:=qa HO;have d4:qq wb (wb.alloc (.cells (qo x).toArray 69)):=(Upd.refl _ _).alloc _;have n5:Upd (· = g) w1 w5:=(b8.alloc _).grown m (fun k f d7=>by
     rcases hO.2 with ⟨e,_⟩ | ⟨g2,cap,V,X,e3,_⟩
     ·rw[e] at f;simp[Value.ownBlock] at f
     ·rw[X] at f;simp[Value.ownBlock] at f;omega)
    have u5:Upd (fun k=>w1.heap.size≤k) (wb.alloc (.cells (qo x).toArray 69)) w5:=(Upd.refl _ _).grown m (fun k f d7=>by
     rcases hO.2 with ⟨e,_⟩ | ⟨g2,cap,V,X,e3,_⟩
     ·rw[e] at f;simp[Value.ownBlock] at f
     ·rw[X] at f;simp[Value.ownBlock] at f;omega)
    have c9:=qb (((qa R).new d4).upd u5 (fun k f e=>by have:=(qa N).lt k f;omega));have L:qcr ((r.take i).foldl qcr c) x=(r.take i).foldl qcr c:=by unfold qcr;rw[if_neg O]
    have c2:=qb C;clear C m HB;go_wp2_with fail;go_roundw
    case rel =>
     refine⟨i+1,by go_num,by omega,?_,?_,n5⟩
     ·rw[qa HK,if_neg O,List.length_append,List.flatMap_append];have:[x].flatMap qo=qo x:=by simp
      rw[this];exact qa c2
     ·rw[qa HT,L];exact c9
    case measure=>simp[intOf];omega
  ·obtain rfl:i=r.length:=by omega
   rw[List.take_length] at *
   have hP:=qa HC;have J:E.cell? ⟨g,47,none⟩=some lv:=hP.toR.live;have f9:E.frozen? ⟨g,47,none⟩=false:=qv hP.at_ 47;have d8:(qet r).length≤1000000:=Nat.le_trans (List.length_filter_le _ _) b3;have I:=hP.newLive w1 nr (Upd.refl _ _) _ (qet r) (fun y hy=>qa d0 y (List.mem_filter.1 hy).1) d8 v;have uF:Upd (· = g) E (E.setCell ⟨g,47,none⟩ (.slice ka (qet r).length b7)):=(Upd.refl _ _).set1 47 _;have HF:=qb I;have HU:=qb (nr.trans uF);clear I v uF z hP;go_wp2_with fail;go_end0;have hU:=qa HU;have hF:=qa HF;have h0:=qa N;rw[qa c0];refine⟨rfl,⟨_,_,_,hF.wider (fun k f=> ?_) (fun k f=> ?_)⟩,(n1.mono (fun _ _ h=>h.elim)).trans (hU.mono (fun k _ e=>by rw[e];exact h0.inG))⟩
   ·rcases f with f | f
    ·exact .inl f
    ·exact .inr ⟨by omega,f.2⟩
   ·rcases f with f | f
    ·exact hF.lt k (.inl f)
    ·exact f.2
end
end Go.Proofs.YtfmkdoachjgjbaaGreatDoor
