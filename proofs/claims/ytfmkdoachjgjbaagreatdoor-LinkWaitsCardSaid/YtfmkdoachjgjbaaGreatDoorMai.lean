/-
  Lives as flat rows of cells; slices.Clone (all of it stands in XLv now).
-/
import Derived.Test.YtfmkdoachjgjbaaGreatDoorVw5
import Derived.Test.YtfmkdoachjgjbaaGreatDoorMae
import Derived.Test.YtfmkdoachjgjbaaGreatDoorMaf
import Derived.Test.YtfmkdoachjgjbaaGreatDoorMag
set_option maxRecDepth 100000
set_option maxHeartbeats 4000000
set_option linter.unusedVariables false
set_option linter.unusedSimpArgs false
namespace Go.Proofs.YtfmkdoachjgjbaaGreatDoor
section
end
section
open Go.RowKit Go.Sort
theorem q6r(x:Live)(s:Int):qk {x with state:=s} = (qk x).set 36 (.int .i64 s):=by
 unfold qk;rw[List.set_append_right _ _ (by rw[qbh];omega),qbh];rfl
theorem qdy.setState{w:World}{g off:Nat}{X:List Live}(h:qdy w g off X){n:Nat}{x:Live}(z:X[n]? = some x)(s:Int) :
  qdy (w.setCell ⟨g,off+n*38+36,none⟩ (.int .i64 s)) g off (X.set n {x with state:=s}):=by
 obtain⟨C,T,E,H,p⟩:=h
 refine⟨_,T,zt E _ _,by rw[Array.size_setIfInBounds,List.length_set];exact H,fun i y f j q=> ?_⟩
 have v:=(List.getElem?_eq_some_iff.1 z).1
 have F:off+n*38+38≤C.size:=by have:=Nat.mul_le_mul_right 38 (show n+1≤X.length from v);omega
 rw[Array.getElem?_setIfInBounds]
 rw[List.getElem?_set] at f
 by_cases e:n=i
 ·subst e;rw[if_pos rfl,if_pos v,Option.some.injEq] at f;subst f;rw[q6r,List.getElem?_set];by_cases m:36=j
  ·subst m;rw[if_pos rfl,if_pos (by omega),if_pos rfl,if_pos (by rw[qbb];omega)]
  ·rw[if_neg (by omega),if_neg m];exact p n x z j q
 ·rw[if_neg e] at f;rw[if_neg ?_]
  ·exact p i y f j q
  ·rcases Nat.lt_or_gt_of_ne e with h | h
   ·have:=Nat.mul_le_mul_right 38 (show n+1≤i from h);omega
   ·have:=Nat.mul_le_mul_right 38 (show i+1≤n from h);omega
attribute [local go_sem ↓ high] qba qbn
attribute [local go_sem] qdk qd2
def aft(ev:Int)(x:Live):Live:= {x with state:=qcr x.state x.own ev}
def qal(ev:Int)(xs:List Live):List Live:=xs.map (aft ev)
theorem qny(v:Value)(xs:List Live)(ev:Int)(hl:xs.length≤1048576)(w:World)(hG:Glob w)(hv:qgu w v xs) :
  Calls Tryz.prog 155 #[v,.int .i64 ev] w fun e w'=>∃u,e = .returned u∧qu w w'∧qnu w.heap.size w' u (qal ev xs):=by
 have a7:∃a k c,v = .slice a k c:=by
  rcases hv with ⟨_,_,rfl,_⟩ | ⟨g,off,cap,rfl,_⟩
  ·exact⟨_,_,_,rfl⟩
  ·exact⟨_,_,_,rfl⟩
 obtain⟨va,vk,vc,rfl⟩:=a7
 go_enter Tryz.func155,Tryz.ntmps155
 go_wp2_with fail
 refine(qp8 _ xs hl w hv).mono ?_
 rintro e w1 ⟨u,rfl,n1,⟨ua,uc,rfl,rfl⟩ | ⟨g,cap,rfl,hg,hh⟩⟩
 ·obtain⟨N,rfl⟩:∃N:World,N=w1:=⟨_,rfl⟩;go_wp2_with fail
  go_loopw [12] (fun S wr=>S = .int .i64 0∧wr=N) (fun _ _=>0)
  case atStart=>exact⟨rfl,rfl⟩
  case round =>
   obtain⟨rfl,rfl⟩:=hrel;go_wp2
   first | go_ret2 | go_ret
   exact⟨_,rfl,n1,.inl ⟨_,_,rfl,rfl⟩⟩
 ·have b4:=hG.new n1;obtain⟨N,rfl⟩:∃N:World,N=w1:=⟨_,rfl⟩;go_wp2_with fail
  go_loopw [12] (fun S wr=>∃n:Nat,S = .int .i64 (n:Int)∧n≤xs.length∧Hid (qdy wr g 0 (qal ev (xs.take n)++xs.drop n))∧qu w wr) (fun S _=>xs.length-(intOf S).toNat)
  case atStart=>exact⟨0,rfl,Nat.zero_le _,qb (by simpa [qal] using hh),n1⟩
  case round =>
   obtain⟨n,rfl,hn,Y,nr⟩:=hrel;by_cases K:n<xs.length
   ·obtain⟨x,hx⟩:∃x,xs[n]? = some x:=⟨_,List.getElem?_eq_getElem K⟩;have H:(qal ev (xs.take n)++xs.drop n)[n]? = some x:=by
     have J:(qal ev (xs.take n)).length=n:=by simp[qal];omega
     rw[List.getElem?_append_right (by omega),J,Nat.sub_self,List.getElem?_drop,Nat.add_zero];exact hx
    have E:=qa Y;have p:=E.row H;rw[Nat.zero_add] at p;have f:=E.setState H (qcr x.state x.own ev);obtain⟨CC,TT,i,M,z⟩:=id E;have b5:(n:Int)<(xs.length:Int):=by omega
    have R:stOk (wr.alloc (.cells #[.int .u64 0,.int .u64 0,.int .u8 0,.int .u8 0,.int .u8 0,.int .u8 0,.int .u8 0,.int .u8 0,.int .u8 0,.int .u8 0,.int .u8 0,.int .u8 0,.int .u8 0,.int .u8 0,.int .u8 0,.int .u8 0,.int .u8 0,.int .u8 0,.int .u8 0,.int .u8 0,.int .u8 0,.int .u8 0,.int .u8 0,.int .u8 0,.int .u8 0,.int .u8 0,.int .u8 0,.int .u8 0,.int .u8 0,.int .u8 0,.int .u8 0,.int .u8 0,.int .u8 0,.int .u8 0,.int .i64 0,.bool false,.int .i64 0,.bool false] 69)) wr.heap.size 0 38 (qk x).toArray=true:=qdf (qh _ _) (by decide) (by rw[List.size_toArray,qbb]) (by rw[List.all_toArray,List.all_eq_true];exact qef x);have m:=qky wr #[.int .u64 0,.int .u64 0,.int .u8 0,.int .u8 0,.int .u8 0,.int .u8 0,.int .u8 0,.int .u8 0,.int .u8 0,.int .u8 0,.int .u8 0,.int .u8 0,.int .u8 0,.int .u8 0,.int .u8 0,.int .u8 0,.int .u8 0,.int .u8 0,.int .u8 0,.int .u8 0,.int .u8 0,.int .u8 0,.int .u8 0,.int .u8 0,.int .u8 0,.int .u8 0,.int .u8 0,.int .u8 0,.int .u8 0,.int .u8 0,.int .u8 0,.int .u8 0,.int .u8 0,.int .u8 0,.int .i64 0,.bool false,.int .i64 0,.bool false] 69 (qk x) (by rw[qbb];rfl);have U:=qez x;have V:=qe0 x;have P:=qbb x;have HX:=qb hx;have I:=qb H;clear hx H f i M z E hh;generalize qk x=C at p R m U V P;go_upto_region 5 with fail;obtain⟨q,T⟩:=m;generalize (wr.alloc (.cells #[.int .u64 0,.int .u64 0,.int .u8 0,.int .u8 0,.int .u8 0,.int .u8 0,.int .u8 0,.int .u8 0,.int .u8 0,.int .u8 0,.int .u8 0,.int .u8 0,.int .u8 0,.int .u8 0,.int .u8 0,.int .u8 0,.int .u8 0,.int .u8 0,.int .u8 0,.int .u8 0,.int .u8 0,.int .u8 0,.int .u8 0,.int .u8 0,.int .u8 0,.int .u8 0,.int .u8 0,.int .u8 0,.int .u8 0,.int .u8 0,.int .u8 0,.int .u8 0,.int .u8 0,.int .u8 0,.int .i64 0,.bool false,.int .i64 0,.bool false] 69)).setCells wr.heap.size 0 C=X at q T ⊢
    have a8:X.cell? ⟨wr.heap.size,35,none⟩=some (.bool x.own):=by rw[qg q,List.getElem?_toArray];exact U
    have b3:X.cell? ⟨wr.heap.size,36,none⟩=some (.int .i64 x.state):=by rw[qg q,List.getElem?_toArray];exact V
    have Z:Glob X:=hG.new (nr.trans T);clear R p;go_wp2_with fail;refine(qux x.state ev x.own X Z).mono ?_;rintro e W ⟨rfl,q2⟩;have F:qdy W g 0 (qal ev (xs.take n)++xs.drop n):=((qa Y).upd T (fun h=>h)).upd (q2.upd (fun _=>False)) (fun h=>h);have f:=F.setState (qa I) (qcr x.state x.own ev);have L:=F.row (qa I);obtain⟨CC,TT,i,M,z⟩:=id F;have b6:W.cell? ⟨g,n*38+36,none⟩=some (.int .i64 x.state):=by
     rw[qg i];have:=z n x (qa I) 36 (by decide);rw[Nat.zero_add] at this;rw[this,qe0]
    have b7:W.frozen? ⟨g,n*38+36,none⟩=false:=qo i _;rw[Nat.zero_add] at f;have O:=qb f;have n2:qu w W:=(nr.trans T).then (q2.upd (fun _=>False)) (fun _ _ h=>h.elim);clear f L i M z F a8 b3 q T;go_wp2;go_roundw
    case rel =>
     refine⟨n+1,by go_num,by omega,qb ?_,n2.setCell (fun h=>by have h1:g<w.heap.size:=h;omega) _⟩;have:=qa O;have e:(qal ev (xs.take n)++xs.drop n).set n {x with state:=qcr x.state x.own ev} = qal ev (xs.take (n+1))++xs.drop (n+1):=by
      have J:(qal ev (xs.take n)).length=n:=by simp[qal];omega
      rw[List.set_append_right _ _ (by omega),J,Nat.sub_self,List.take_add_one,qa HX];have hd:xs.drop n=x::xs.drop (n+1):=by
       rw[List.drop_eq_getElem_cons K];congr 1;have:=qa HX;rw[List.getElem?_eq_getElem K] at this;exact Option.some.inj this
      rw[hd];simp[qal,aft]
     rwa [e] at this
    case measure=>simp[intOf];omega
   ·obtain rfl:n=xs.length:=by omega
    have hf:qdy wr g 0 (qal ev xs):=by have:=qa Y;simpa using this
    have a6:(qal ev xs).length=xs.length:=by simp[qal]
    have HF:=qb hf;clear hf hh;go_wp2
    first | go_ret2 | go_ret
    exact⟨_,rfl,nr,.inr ⟨g,0,_,by rw[a6];rfl,hg,(qa HF).toL⟩⟩
end
section
open Go.RowKit
attribute [local go_sem ↓ high] qba qbn qcf qgg
attribute [local go_sem] qdk qd2 qfi qry qv
def qct(c:Ch)(x:Live):Ch:=if x.state=9 then c.give (x.own != x.paid) x.h.amount else c
def qff(xs:List Live):List Live:=xs.filter fun x=> !(x.state==9)
def Ch.goOn(c:Ch)(ev:Int):Ch:= {(qal ev c.xs).foldl qct c with xs:=qff (qal ev c.xs)}
theorem qxd{xs:List Live}{i:Nat}{x:Live}(f:xs[i]? = some x):qff (xs.take (i+1))=qff (xs.take i)++(if x.state=9 then [] else [x]):=by
 unfold qff;rw[List.take_add_one,f,List.filter_append];by_cases h:x.state=9<;>simp[h]
theorem qwz{xs:List Live}{i:Nat}{x:Live}(c:Ch)(f:xs[i]? = some x):(xs.take (i+1)).foldl qct c=qct ((xs.take i).foldl qct c) x:=by
 rw[List.take_add_one,f,List.foldl_append];rfl
theorem q2d{st:Int}(h : -9223372036854775808≤st∧st≤9223372036854775807)(own:Bool)(ev:Int) : -9223372036854775808≤qcr st own ev∧qcr st own ev≤9223372036854775807:=by
 unfold qcr;split
 ·rename_i f;have:=f.1;unfold qlv at this;simp at this;omega
 ·exact h
theorem q3w{x:Live}(h:LiveOk x)(ev:Int):LiveOk (aft ev x):=⟨h.h,q2d h.state _ _⟩
theorem ChP.newLive{P z:World}{g:Nat}{S:Nat→Prop}{c:Ch}{U O M:Value}(h:ChP P g S c U O M)(w0:World)(u:Upd (· = g) w0 P)(Z:qu P z)(q:Value)(E:List Live)(Y:∀y∈E,LiveOk y)(I:E.length≤1000000)(i:z.ownsRow w0.heap.size 69 38 q E.length (E.flatMap qk)) :
  ChP (z.setCell ⟨g,47,none⟩ q) g (Fr S w0 (z.setCell ⟨g,47,none⟩ q)) {c with xs:=E} q O M:=by
 have F:=h.new Z
 have L:Upd (· = g) z (z.setCell ⟨g,47,none⟩ q):=(Upd.refl _ _).set1 47 _
 have C:=zt F.at_ 47 q
 rw[qvi c U O M h.ok.s.seed E] at C
 have J:∀k,q.ownBlock=some k→w0.heap.size≤k:=by
  intro k f;rcases i.2 with ⟨e,_⟩ | ⟨R,cap,p,e,V,_⟩
  ·rw[e] at f;simp[Value.ownBlock] at f
  ·rw[e] at f;simp[Value.ownBlock] at f;omega
 have K:∀k,q.ownBlock=some k→k<z.heap.size:=fun k f=>by
  obtain⟨p,N⟩:=qab i k f;exact zr N
 have m:z.ownsRow 0 69 38 q E.length (E.flatMap qk):=by
  refine⟨i.1,?_⟩;rcases i.2 with e | ⟨R,cap,p,e,V,r⟩
  ·exact .inl e
  ·exact .inr ⟨R,cap,p,e,Nat.zero_le _,r⟩
 have H:∀ {T:TypeId} {v:Value} {n:Nat} {xs:List Value},T≠126→z.ownsRow 0 T 38 v n xs→∀k,v.ownBlock=some k→k≠g:=by
  intro T v n xs W X k f e;obtain⟨p,N⟩:=qab X k f;exact qao N F.at_ W e
 have hz:=L.size
 refine⟨C,⟨h.ok.s,h.ok.signed,h.ok.heard,h.ok.nextOwn,h.ok.nextTheirs,h.ok.loc,h.ok.rem,Y,I,h.ok.shelf,h.ok.news,h.ok.last,h.ok.many⟩,?_,?_,?_,.inl h.inG,?_,fun k e=> .inl (h.inN k e),fun k e=> .inl (h.inA k e),h.sep,?_⟩
 ·exact zq m L (fun k f e=>H (by decide) m k f e)
 ·exact zq F.news L (fun k f e=>H (by decide) F.news k f e)
 ·exact zq F.last L (fun k f e=>H (by decide) F.last k f e)
 ·intro k f;have:=K k f;exact .inr ⟨J k f,by omega⟩
 ·rintro k (f | f)
  ·have:=F.lt k f;omega
  ·exact f.2
theorem qkt(g:Nat)(S:Nat→Prop)(c:Ch)(ev:Int)(w:World)(h:ChS w g S c)(hG:Glob w) :
  Calls Tryz.prog 119 #[.pointer (some ⟨g,0,none⟩),.int .i64 ev] w fun e w'=>e = .returned (.tuple #[])∧ChS w' g (Fr S w w') (c.goOn ev)∧Upd S w w':=by
 obtain⟨lv,nv,av,h⟩:=h
 have J:w.cell? ⟨g,47,none⟩=some lv:=h.toR.live
 have K:=qny lv c.xs ev (by have:=h.ok.few;omega) w hG h.toI.lives
 obtain⟨i9,z9,b9,d6,f1,e8,e9,f0,d5⟩:=qh1
 have N:=qb h
 obtain⟨la,f5,e1⟩:=zv h.live
 rw[e1] at J K
 clear h
 go_enter Tryz.func119,Tryz.ntmps119
 go_wp2_with fail
 refine K.mono ?_
 rintro e w1 ⟨u,rfl,n1,hu⟩
 obtain⟨ua,f6,rfl,z⟩:=hu.row
 have b3:(qal ev c.xs).length≤1000000:=by have:=(qa N).ok.few;simp[qal];omega
 have b6:∀y∈qal ev c.xs,LiveOk y:=by
  intro y hy;obtain⟨x,hx,rfl⟩:=List.mem_map.1 hy;exact q3w ((qa N).ok.xs x hx) ev
 have a7:c.goOn ev = {(qal ev c.xs).foldl qct c with xs:=qff (qal ev c.xs)} := rfl
 have c0:=qb a7
 have d0:=qb b6
 clear K hu J b6 a7
 generalize e7:qal ev c.xs=p at *
 clear e7
 have h1:=(qa N).new n1
 have f3:g<w.heap.size:=zr (qa N).at_
 have g5:(p.length:Int)≤1000000:=by omega
 have d3:=qb h1
 have g7:=n1.size
 clear h1
 go_wp2_with fail
 go_loopw [4,6,14] (fun kv _ iv wr=>∃i:Nat,iv = .int .i64 (i:Int)∧i≤p.length∧wr.ownsRow w1.heap.size 69 38 kv (qff (p.take i)).length ((qff (p.take i)).flatMap qk)∧Hid (ChP wr g S ((p.take i).foldl qct c) lv nv av)∧Upd (· = g) w1 wr) (fun _ _ iv _=>p.length-(intOf iv).toNat)
 case atStart=>exact⟨0,rfl,Nat.zero_le _,World.ownsRow_nil _ _ _ _,d3,Upd.refl _ _⟩
 case round =>
  obtain⟨i,rfl,hi,v,HC,nr⟩:=hrel;obtain⟨E,rfl⟩:∃E:World,E=wr:=⟨_,rfl⟩;obtain⟨ka,b7,d9⟩:=zv v;subst d9;by_cases e0:i<p.length
  ·obtain⟨x,F⟩:∃x,p[i]? = some x:=⟨_,List.getElem?_eq_getElem e0⟩;obtain⟨g',off,rfl,Y,hh⟩:=z i x F;have b5:=(hh.upd nr (fun e=>by omega)).row F;have g4:(i:Int)<(p.length:Int):=by omega
   have e5:=qhh E x;have M:=qg4 E x;have a8:=qxd F;have Z:=qwz c F;have g6:(qff (p.take i)).length≤i:=by
    unfold qff;refine Nat.le_trans (List.length_filter_le _ _) ?_;rw[List.length_take];omega
   have HO:=qb v;have HK:=qb a8;have HT:=qb Z;clear a8 Z F hh z v;go_upto_region 4 with fail;obtain⟨H,P⟩:=M;generalize (E.alloc (.cells (qk Live.zero).toArray 69)).setCells E.heap.size 0 (qk x)=wb at H P ⊢;have d2:wb.cell? ⟨E.heap.size,36,none⟩=some (.int .i64 x.state):=by rw[qg H,List.getElem?_toArray];exact qe0 x
   have e4:=nr.size;have g3:w1.heap.size≤E.heap.size:=e4;have R:=qb ((qa HC).new P);have b8:=nr.then (P.mono (T:=fun _=>False) (fun _ _ h=>h)) (fun _ _ h=>h.elim);clear e5 b5;by_cases O:x.state=9
   ·have f7:wb.cell? ⟨E.heap.size,35,none⟩=some (.bool x.own):=by rw[qg H,List.getElem?_toArray];exact qez x
    have f8:wb.cell? ⟨E.heap.size,37,none⟩=some (.bool x.paid):=by rw[qg H,List.getElem?_toArray];exact qnk x
    have d1:wb.cell? ⟨E.heap.size,1,none⟩=some (.int .u64 x.h.amount):=by rw[qg H,List.getElem?_toArray];exact q6p x
    have a6:=fun(W:World) (q:Q wb W)=>q07 g S _ lv nv av (x.own != x.paid) x.h.amount W ((qa R).upd (q.upd (fun _=>False)) (fun _ _ h=>h))
    have U:=qb a6;rw[O] at d2;clear a6 H;go_wp2_with fail;refine(qa U _ (Q.refl _)).mono ?_;rintro e w2 ⟨rfl,b4,u2⟩;have L:qct ((p.take i).foldl qct c) x=((p.take i).foldl qct c).give (x.own != x.paid) x.h.amount:=by unfold qct;rw[if_pos O]
    have c8:=qb b4;have f2:=b8.trans u2;have c6:=qb (zq (zq (qa HO) P (fun _ _ h=>h)) u2 (fun k f e=>by
     have Y:=(qa HO);rcases Y.2 with ⟨e,_⟩ | ⟨g2,cap,V,X,e3,_⟩
     ·rw[e] at f;simp[Value.ownBlock] at f
     ·rw[X] at f;simp[Value.ownBlock] at f;omega))
    clear b4 U;go_wp2_with fail;go_roundw
    case rel =>
     refine⟨i+1,by go_num,by omega,?_,?_,f2⟩
     ·rw[qa HK,if_pos O,List.append_nil];exact qa c6
     ·rw[qa HT,L];exact c8
    case measure=>simp[intOf];omega
   ·have g0:(x.state==9)=false:=by simpa using O
    have g8:=qai H 38 (by rw[List.size_toArray,qbb]);have e6:=qbb x;have HB:=qb H;have c7:=qb (zq (qa HO) P (fun _ _ h=>h));have g1:wb.heap.size=wb.heap.size:=rfl;have f4:=P.size;clear H;go_wp2_with (at_builtin;refine wpList_append_own _ rfl (.tmp 31) (.tmp 33) 46 rfl w1.heap.size 69 i9 _ 38 b9 Tryz.underlying46 d6 f1 e8 e9 f0 (by decide) _ _ _ rfl ((qa c7).alloc _) ⟨wb.heap.size,0,none⟩ 1 1 (qk x) rfl (by rw[e6]) ?c1 (qef x) ?c3 ?c4 ?c5 ?_)
    case c3=>unfold maxLen;omega
    case c4=>have:=Nat.mul_le_mul (show (qff (p.take i)).length+1≤1000000 by omega) d5;omega
    case c5=>omega
    intro v' w5 C m _;obtain⟨a5,k5,c5,rfl⟩:=qly C;have hO:=qa HO;have d4:qu wb (wb.alloc (.cells (qk x).toArray 69)):=(Upd.refl _ _).alloc _;have n5:Upd (· = g) w1 w5:=(b8.alloc _).grown m (fun k f d7=>by
     rcases hO.2 with ⟨e,_⟩ | ⟨g2,cap,V,X,e3,_⟩
     ·rw[e] at f;simp[Value.ownBlock] at f
     ·rw[X] at f;simp[Value.ownBlock] at f;omega)
    have u5:Upd (fun k=>w1.heap.size≤k) (wb.alloc (.cells (qk x).toArray 69)) w5:=(Upd.refl _ _).grown m (fun k f d7=>by
     rcases hO.2 with ⟨e,_⟩ | ⟨g2,cap,V,X,e3,_⟩
     ·rw[e] at f;simp[Value.ownBlock] at f
     ·rw[X] at f;simp[Value.ownBlock] at f;omega)
    have c9:=qb (((qa R).new d4).upd u5 (fun k f e=>by have:=(qa N).lt k f;omega));have L:qct ((p.take i).foldl qct c) x=(p.take i).foldl qct c:=by unfold qct;rw[if_neg O]
    have c2:=qb C;clear C m HB;go_wp2_with fail;go_roundw
    case rel =>
     refine⟨i+1,by go_num,by omega,?_,?_,n5⟩
     ·rw[qa HK,if_neg O,List.length_append,List.flatMap_append];have:[x].flatMap qk=qk x:=by simp
      rw[this];exact qa c2
     ·rw[qa HT,L];exact c9
    case measure=>simp[intOf];omega
  ·obtain rfl:i=p.length:=by omega
   rw[List.take_length] at *
   have hP:=qa HC;have J:E.cell? ⟨g,47,none⟩=some lv:=hP.toR.live;have f9:E.frozen? ⟨g,47,none⟩=false:=qo hP.at_ 47;have d8:(qff p).length≤1000000:=Nat.le_trans (List.length_filter_le _ _) b3;have I:=hP.newLive w1 nr (Upd.refl _ _) _ (qff p) (fun y hy=>qa d0 y (List.mem_filter.1 hy).1) d8 v;have uF:Upd (· = g) E (E.setCell ⟨g,47,none⟩ (.slice ka (qff p).length b7)):=(Upd.refl _ _).set1 47 _;have HF:=qb I;have HU:=qb (nr.trans uF);clear I v uF z hP;go_wp2_with fail;go_end0;have hU:=qa HU;have hF:=qa HF;have h0:=qa N;rw[qa c0];refine⟨rfl,⟨_,_,_,hF.wider (fun k f=> ?_) (fun k f=> ?_)⟩,(n1.mono (fun _ _ h=>h.elim)).trans (hU.mono (fun k _ e=>by rw[e];exact h0.inG))⟩
   ·rcases f with f | f
    ·exact .inl f
    ·exact .inr ⟨by omega,f.2⟩
   ·rcases f with f | f
    ·exact hF.lt k (.inl f)
    ·exact f.2
end
section
open Go.RowKit
theorem qwj(s:Int)(H:List Value)(h:H.length=35):Tryz.prog.built 69 [(0,.agg H.toArray),(2,.int .i64 s)]=some (H++([.bool false,.int .i64 s,.bool false]:List Value)).toArray:=by
 obtain⟨i,z,m,v,f⟩:=qcn Tryz.zeroLive';obtain⟨C,q,p⟩:=Tryz.placesLiv;rw[qbl m q v p];rw[qc3 (P:=[]) (A:=H) (Z:=qm Htlc.zero) (R:=[.bool false,.int .i64 0,.bool false]) (off:=0) (by rw[h];rfl) rfl (by rw[h];rfl) (f.trans qmz)];rw[qb1 (P:=H++[.bool false]) (z:= .int .i64 0) (R:=[.bool false]) (off:=36) rfl (by simp[h]) rfl (by simp)];rw[Instr.fill];simp
theorem q8v(s:Int)(H:List Value)(w:World):(qti #[(0,.agg H.toArray),(2,.int .i64 s)]).run Tryz.prog w=if H.length=35 then .ok (.agg (H++([.bool false,.int .i64 s,.bool false]:List Value)).toArray) w else (Instr.build 69 #[(0,.agg H.toArray),(2,.int .i64 s)]).run Tryz.prog w:=by
 by_cases h:H.length=35
 ·rw[if_pos h];exact run_build w _ _ _ (qwj s H h)
 ·rw[if_neg h];rfl
attribute [local go_sem ↓ high] qba qbn qcf qgg zl qd7 qmr ql4 ql6 ql9
attribute [local go_sem] qdk qd2 qfi qry qv qbf qlt q73 q3z qwc
structure MsgOk(m:MsgV):Prop where
 kind : -9223372036854775808≤m.kind∧m.kind≤9223372036854775807
 ch:0≤m.ch∧m.ch<4294967296
 id:0≤m.id∧m.id<18446744073709551616
 amount:0≤m.amount∧m.amount<18446744073709551616
 len:m.hash.length=32
 hash:∀b∈m.hash,0≤b∧b≤255
 expiry : -9223372036854775808≤m.expiry∧m.expiry≤9223372036854775807
 number : -9223372036854775808≤m.number∧m.number≤9223372036854775807
def qa5(l:List Int):Vector Int 32:=if h:l.length=32 then ⟨l.toArray,by simpa using h⟩ else Vector.replicate 32 0
theorem qd6{l:List Int}(h:l.length=32):(qa5 l).toList=l:=by
 unfold qa5;rw[dif_pos h];rfl
theorem qso(m:MsgV){w:World}{b:Nat}{T:TypeId}{p:Nat × Nat}(h:w.heap[b]? = some (.cells m.cells.toArray T p))(i:m.hash.length=32) :
  w.cell? ⟨b,0,none⟩=some (.int .i64 m.kind)∧w.cell? ⟨b,1,none⟩=some (.int .u32 m.ch)∧w.cell? ⟨b,2,none⟩=some (.int .u64 m.id)∧w.cell? ⟨b,3,none⟩=some (.int .u64 m.amount)∧w.cell? ⟨b,36,none⟩=some (.int .i64 m.expiry)∧w.cell? ⟨b,37,none⟩=some (.int .i64 m.number)∧zj w b 4 32=some (m.hash.map (Value.int .u8)).toArray:=by
 have f:∀j,m.cells[36+j]? = ([.int .i64 m.expiry,.int .i64 m.number]:List Value)[j]? := by
  intro j;unfold MsgV.cells;rw[show 36+j=(32+j)+4 by omega];simp only[List.getElem?_cons_succ];rw[List.getElem?_append_right (by simp[i]),List.length_map,i,Nat.add_sub_cancel_left]
 refine⟨qg h 0,qg h 1,qg h 2,qg h 3,?_,?_,?_⟩
 ·rw[qg h 36,List.getElem?_toArray];exact f 0
 ·rw[qg h 37,List.getElem?_toArray];exact f 1
 ·rw[qbx h 4 32 (by rw[List.size_toArray,m.len i];omega)];congr 1;apply Array.ext';rw[Array.toList_extract];unfold MsgV.cells;simp[i]
def qa0(c:Ch)(m:MsgV):Int :=
 if c.k.shutHeard=true then 135 else if m.amount=0 then 1 else if m.id≠c.k.nextTheirs then 1 else if m.expiry=0 then 131 else if 8≤qe7 false c.xs then 130 else if c.rem<m.amount then 61 else 0
def qhp(m:MsgV):Live:=⟨⟨m.id,m.amount,qa5 m.hash,m.expiry⟩,false,0,false⟩
def Ch.added(c:Ch)(m:MsgV):Ch:= {c with rem:=c.rem-m.amount,k:= {c.k with nextTheirs:=IntKind.u64.wrap (c.k.nextTheirs+1)},xs:=c.xs++[qhp m]}
def Ch.hearAdd(c:Ch)(m:MsgV):Ch × Int:=if qa0 c m=0 then (c.added m,0) else (c,qa0 c m)
theorem quc(g:Nat)(S:Nat→Prop)(c:Ch)(m:MsgV)(hm:MsgOk m)(w:World)(h:ChS w g S c)(g1:c.xs.length<1000000) :
  Calls Tryz.prog 176 #[.pointer (some ⟨g,0,none⟩),.agg m.cells.toArray] w fun e w' =>
   e = .returned (.tuple #[qbw,.int .i64 (c.hearAdd m).2])∧ChS w' g (Fr S w w') (c.hearAdd m).1∧Upd S w w':=by
 obtain⟨lv,nv,av,h⟩:=h
 go_enter Tryz.func176,Tryz.ntmps176
 go_upto_region 1 with fail
 have b4:(w.alloc (.cells m.cells.toArray 101)).heap[w.heap.size]? = some (.cells m.cells.toArray 101 (0,0)):=qh _ _
 have nA:qu w (w.alloc (.cells m.cells.toArray 101)):=(Upd.refl _ _).alloc _
 generalize w.alloc (.cells m.cells.toArray 101)=wA at b4 nA ⊢
 obtain⟨A,f7⟩:∃A,A=w.heap.size:=⟨_,rfl⟩
 rw[←f7] at b4 ⊢
 have hA:=h.new nA
 have i6:g≠A:=by have:=h.lt g h.inG;omega
 have k8:w.heap.size≤A:=by omega
 clear f7
 have d5:wA.cell? ⟨g,43,none⟩=some (.bool c.k.shutHeard):=hA.toR.shutHeard
 have d4:wA.cell? ⟨g,41,none⟩=some (.int .u64 c.k.nextTheirs):=hA.toR.nextTheirs
 have b7:wA.cell? ⟨g,46,none⟩=some (.int .u64 c.rem):=hA.toR.rem
 obtain⟨m0,m1,m2,m3,c7,e9,m4⟩:=qso m b4 hm.len
 have bad:∀W,qu w W→qa0 c m≠0→ChS W g (Fr S w W) (c.hearAdd m).1∧(c.hearAdd m).2=qa0 c m∧Upd S w W:=by
  intro W nW H;unfold Ch.hearAdd;rw[if_neg H];exact⟨(h.new nW).fr w,rfl,nW.mono (fun _ _ h=>h.elim)⟩
 have z:=qb bad
 have H0:=qb h
 have HA:=qb hA
 have NA:=qb nA
 have BA:=qb b4
 clear bad h hA nA b4 m0 m1 e9 m4
 by_cases O:c.k.shutHeard=true
 ·have H:qa0 c m=135:=by unfold qa0;rw[if_pos O]
  rw[O] at d5;have J:=qb H;clear H O;go_wp2_with ((with_reducible first|rfl|refine' ut ?_ ?_;rotate_left|refine' uu ?_)<;>intros);go_ret2;obtain⟨b1,b2,b3⟩:=qa z wA (qa NA) (by rw[qa J];decide);exact⟨by rw[b2,qa J];rfl,b1,b3⟩
 have P:c.k.shutHeard=false:=by simpa using O
 rw[P] at d5
 by_cases V:m.amount=0
 ·have H:qa0 c m=1:=by unfold qa0;rw[if_neg O,if_pos V]
  rw[V] at m3;have J:=qb H;clear H O P;go_wp2_with ((with_reducible first|rfl|refine' ut ?_ ?_;rotate_left|refine' uu ?_)<;>intros);go_ret2;obtain⟨b1,b2,b3⟩:=qa z _ ((qa NA).drewN 1) (by rw[qa J];decide);exact⟨by rw[b2,qa J];rfl,b1,b3⟩
 have k5:(m.amount==0)=false:=by simpa using V
 by_cases X:m.id≠c.k.nextTheirs
 ·have H:qa0 c m=1:=by unfold qa0;rw[if_neg O,if_neg V,if_pos X]
  have h2:(m.id != c.k.nextTheirs)=true:=by simpa using X
  have J:=qb H;clear H O P V X;go_wp2_with ((with_reducible first|rfl|refine' ut ?_ ?_;rotate_left|refine' uu ?_)<;>intros);go_ret2;obtain⟨b1,b2,b3⟩:=qa z _ ((qa NA).drewN 1) (by rw[qa J];decide);exact⟨by rw[b2,qa J];rfl,b1,b3⟩
 have h2:(m.id != c.k.nextTheirs)=false:=by simpa using X
 by_cases e4:m.expiry=0
 ·have H:qa0 c m=131:=by unfold qa0;rw[if_neg O,if_neg V,if_neg X,if_pos e4]
  rw[e4] at c7;have J:=qb H;clear H O P V X;go_wp2_with ((with_reducible first|rfl|refine' ut ?_ ?_;rotate_left|refine' uu ?_)<;>intros);go_ret2;obtain⟨b1,b2,b3⟩:=qa z _ ((qa NA).drewN 1) (by rw[qa J];decide);exact⟨by rw[b2,qa J];rfl,b1,b3⟩
 have k6:(m.expiry==0)=false:=by simpa using e4
 have g4:=fun(W:World) (q:Q wA W)=>qqs g S c false W ⟨lv,nv,av,(qa HA).upd (q.upd (fun _=>False)) (fun _ _ h=>h)⟩
 have f4:=qb g4
 clear g4
 go_wp2_with ((with_reducible first|rfl|refine' ut ?_ ?_;rotate_left|refine' uu ?_)<;>intros)
 refine(qa f4 _ ((Q.refl _).drewN' 1)).mono ?_
 rintro e w1 ⟨rfl,g7⟩
 have n1:qu wA w1:=g7.ofDrew
 have f5:=n1.cell b7 (fun h=>h)
 have j9:=n1.cell m3 (fun h=>h)
 have d0:=(qa NA).trans n1
 have f6:=n1.old (qa BA) (fun h=>h)
 have Y:=(qa HA).new n1
 have N1:=qb d0
 have A1:=qb f6
 have P1:=qb Y
 clear b7 d4 d5 m3 m2 c7 f4 n1 g7 d0 f6 Y
 by_cases e5:8≤qe7 false c.xs
 ·have H:qa0 c m=130:=by unfold qa0;rw[if_neg O,if_neg V,if_neg X,if_neg e4,if_pos e5]
  have h3:8≤(qe7 false c.xs:Int):=by omega
  have J:=qb H;clear H O P V X;go_wp2_with ((with_reducible first|rfl|refine' ut ?_ ?_;rotate_left|refine' uu ?_)<;>intros);go_ret2;obtain⟨b1,b2,b3⟩:=qa z _ (qa N1) (by rw[qa J];decide);exact⟨by rw[b2,qa J];rfl,b1,b3⟩
 have h3:¬8≤(qe7 false c.xs:Int):=by omega
 by_cases e6:c.rem<m.amount
 ·have H:qa0 c m=61:=by unfold qa0;rw[if_neg O,if_neg V,if_neg X,if_neg e4,if_neg e5,if_pos e6]
  have J:=qb H;clear H O P V X;go_wp2_with ((with_reducible first|rfl|refine' ut ?_ ?_;rotate_left|refine' uu ?_)<;>intros);go_ret2;obtain⟨b1,b2,b3⟩:=qa z _ ((qa N1).drewN 1) (by rw[qa J];decide);exact⟨by rw[b2,qa J];rfl,b1,b3⟩
 have H:qa0 c m=0:=by unfold qa0;rw[if_neg O,if_neg V,if_neg X,if_neg e4,if_neg e5,if_neg e6]
 have g5:c.hearAdd m=(c.added m,0):=by unfold Ch.hearAdd;rw[if_pos H]
 have HO:=qb g5
 have g2:m.id=c.k.nextTheirs:=by simpa using X
 clear g5 H O P V X z
 go_upto_region 11 with ((with_reducible first|rfl|refine' ut ?_ ?_;rotate_left|refine' uu ?_)<;>intros)
 have nd:qu w1 w1.drew:=(Upd.refl _ _).drew
 have N2:=qb ((qa N1).trans nd)
 have A2:=qb (nd.old (qa A1) (fun h=>h))
 have P2:=qb ((qa P1).new nd)
 clear f5 j9 N1 A1 P1 nd
 generalize w1.drew=F at N2 A2 P2 ⊢
 obtain⟨m0,m1,m2,m3,c7,e9,m4⟩:=qso m (w:=F) (qa A2) hm.len
 rw[g2] at m2
 clear m0 m1 e9
 have b6:=qa A2
 have Y:=qa P2
 obtain⟨K,hK⟩:∃K:List Value,K = .int .u64 c.k.nextTheirs :: .int .u64 m.amount::(m.hash.map (Value.int .u8)++[.int .i64 m.expiry]):=⟨_,rfl⟩
 have a7:K.length=35:=by rw[hK];simp[hm.len]
 have d7:K=qm (qhp m).h:=by
  rw[hK,←g2];show _=Value.int .u64 m.id :: .int .u64 m.amount::((qa5 m.hash).toList.map (Value.int .u8)++[.int .i64 m.expiry]);rw[qd6 hm.len]
 have h9:(m.hash.map (Value.int .u8)).length=32:=by simp[hm.len]
 have i3:∀W:World,(q38 #[(0,.int .u64 c.k.nextTheirs),(1,.int .u64 m.amount),(2,.agg (m.hash.map (Value.int .u8)).toArray),(3,.int .i64 m.expiry)]).run Tryz.prog W = .ok (.agg K.toArray) W:=fun W=>by
  rw[qwc,if_pos h9,hK]
 have nD:qu F (F.alloc (.cells (qm Htlc.zero).toArray 41)):=(Upd.refl _ _).alloc _
 have e0:(F.alloc (.cells (qm Htlc.zero).toArray 41)).heap[F.heap.size]? = some (.cells (qm Htlc.zero).toArray 41 (0,0)):=qh F _
 have h8:w.heap.size≤F.heap.size:=(qa N2).size
 have e7:g≠F.heap.size:=by have:=zr Y.at_;omega
 have h6:A≠F.heap.size:=by have:=zr b6;omega
 have a8:∀v∈K,v.oneCell'=true:=by rw[d7];exact qix _
 have j0:stOk (F.alloc (.cells (qm Htlc.zero).toArray 41)) F.heap.size 0 35 K.toArray=true:=qej (C:=(qm Htlc.zero).toArray) e0 (by rw[a7];rfl) a8
 have g0:((F.alloc (.cells (qm Htlc.zero).toArray 41)).setCells F.heap.size 0 K).heap[F.heap.size]? = some (.cells K.toArray 41 (0,0)):=by
  rw[qa3 e0 0 K,qcv _ _ (by rw[a7];rfl)]
 have uE:Upd (· = F.heap.size) (F.alloc (.cells (qm Htlc.zero).toArray 41)) ((F.alloc (.cells (qm Htlc.zero).toArray 41)).setCells F.heap.size 0 K):=(Upd.refl _ _).setCells 0 K
 have c9:qu F ((F.alloc (.cells (qm Htlc.zero).toArray 41)).setCells F.heap.size 0 K):=nD.then uE (fun i hi e=>by omega)
 have P3:=qb (Y.new c9)
 have A3:=qb (c9.old b6 (fun h=>h))
 have E3:=qb g0
 have NW:=qb ((qa N2).trans c9)
 have HK:=qb hK
 have g8:=qb d7
 clear b6 Y nD e0 a8 g0 uE c9 hK d7
 go_upto_region 12 with ((with_reducible first|rfl|refine' ut ?_ ?_;rotate_left|refine' uu ?_)<;>intros)
 clear j0 i3 m4 m2 c7 m3
 obtain⟨E,hE⟩:∃E,E=F.heap.size:=⟨_,rfl⟩
 rw[←hE] at h8 e7 h6 E3 A3 P3 NW ⊢
 generalize (F.alloc (.cells (qm Htlc.zero).toArray 41)).setCells E 0 K=w3 at P3 A3 E3 NW ⊢
 clear hE
 have p:=qa P3
 have b7:w3.cell? ⟨g,46,none⟩=some (.int .u64 c.rem):=p.toR.rem
 have h5:w3.frozen? ⟨g,46,none⟩=false:=qo p.at_ 46
 obtain⟨-,-,-,m3,-,-,-⟩:=qso m (qa A3) hm.len
 have k9:=p.ok.rem
 have l3:=p.ok.nextTheirs
 have l0:=hm.amount
 have j1:IntKind.u64.wrap (c.rem-m.amount)=c.rem-m.amount:=qel (by omega) (by omega)
 obtain⟨c1,N⟩:∃c1:Ch,c1 = {c with rem:=c.rem-m.amount} := ⟨_,rfl⟩
 have d2:c1.Ok:=by
  rw[N];exact⟨p.ok.s,p.ok.signed,p.ok.heard,p.ok.nextOwn,p.ok.nextTheirs,p.ok.loc,show 0≤c.rem-m.amount∧c.rem-m.amount<_ by omega,p.ok.xs,p.ok.few,p.ok.shelf,p.ok.news,p.ok.last,p.ok.many⟩
 have f:=p.put (i:=46) (x:= .int .u64 (c.rem-m.amount)) (c':=c1) (by rw[N];exact qzo c lv nv av p.ok.s.seed (c.rem-m.amount)) d2 (by rw[N]) (by rw[N]) (by rw[N])
 have u4:Upd (· = g) w3 (w3.setCell ⟨g,46,none⟩ (.int .u64 (c.rem-m.amount))):=(Upd.refl _ _).set1 46 _
 have P4:=qb f
 have A4:=qb (u4.old (qa A3) (fun e=>i6 e.symm))
 have E4:=qb (u4.old (qa E3) (fun e=>e7 e.symm))
 have U4:=qb (((qa NW).mono (fun _ _ h=>h.elim)).trans (u4.mono (fun k _ e=>by rw[e];exact(qa H0).inG)):Upd S w _)
 clear p d2 f u4 P3 A3 E3 NW
 go_upto_region 13 with ((with_reducible first|rfl|refine' ut ?_ ?_;rotate_left|refine' uu ?_)<;>intros)
 clear b7 h5 j1 m3
 generalize w3.setCell ⟨g,46,none⟩ (.int .u64 (c.rem-m.amount))=w4 at P4 A4 E4 U4 ⊢
 have f:=qa P4
 have i8:c1.k=c.k:=by rw[N]
 have d4:w4.cell? ⟨g,41,none⟩=some (.int .u64 c.k.nextTheirs):=by rw[←i8];exact f.toR.nextTheirs
 have h4:w4.frozen? ⟨g,41,none⟩=false:=qo f.at_ 41
 obtain⟨M,b8⟩:∃x,x=IntKind.u64.wrap (c.k.nextTheirs+1):=⟨_,rfl⟩
 have f9:0≤M∧M<18446744073709551616:=by rw[b8,IntKind.wrap_u64];omega
 have j2:IntKind.u64.wrap (c.k.nextTheirs+1)=M:=b8.symm
 obtain⟨c2,T⟩:∃c2:Ch,c2 = {c1 with k:= {c1.k with nextTheirs:=M}} := ⟨_,rfl⟩
 have d3:c2.Ok:=by
  rw[T];exact⟨f.ok.s,f.ok.signed,f.ok.heard,f.ok.nextOwn,f9,f.ok.loc,f.ok.rem,f.ok.xs,f.ok.few,f.ok.shelf,f.ok.news,f.ok.last,f.ok.many⟩
 have R:=f.put (i:=41) (x:= .int .u64 M) (c':=c2) (by rw[T];exact qo8 c1 lv nv av f.ok.s.seed M) d3 (by rw[T]) (by rw[T]) (by rw[T])
 have u5:Upd (· = g) w4 (w4.setCell ⟨g,41,none⟩ (.int .u64 M)):=(Upd.refl _ _).set1 41 _
 have P5:=qb R
 have E5:=qb (u5.old (qa E4) (fun e=>e7 e.symm))
 have U5:=qb ((qa U4).trans (u5.mono (fun k _ e=>by rw[e];exact(qa H0).inG)))
 have f1:=qb N
 have f2:=qb T
 have g9:=qb b8
 clear f d3 R u5 P4 A4 E4 U4 N T b8
 go_upto_region 14 with ((with_reducible first|rfl|refine' ut ?_ ?_;rotate_left|refine' uu ?_)<;>intros)
 clear d4 h4 j2
 generalize w4.setCell ⟨g,41,none⟩ (.int .u64 M)=f0 at P5 E5 U5 ⊢
 have c8:qu f0 f0.drew:=(Upd.refl _ _).drew
 replace P5:=qb ((qa P5).new c8)
 replace E5:=qb (c8.old (qa E5) (fun h=>h))
 replace U5:=qb ((qa U5).trans (c8.mono (fun _ _ h=>h.elim)))
 clear c8
 generalize f0.drew=w5 at P5 E5 U5 ⊢
 have R:=qa P5
 have d6:w5.drew.cell? ⟨g,47,none⟩=some lv:=R.toR.live
 have rE:zj w5 E 0 35=some K.toArray:=qai (qa E5) 35 (by rw[List.size_toArray,a7])
 obtain⟨L,hL⟩:∃L:List Value,L=K++([.bool false,.int .i64 0,.bool false]:List Value):=⟨_,rfl⟩
 have i0:L.length=38:=by rw[hL];simp[a7]
 have f8:L=qk (qhp m):=by rw[hL,qa g8];rfl
 have i2:∀W:World,(qti #[(0,.agg K.toArray),(2,.int .i64 0)]).run Tryz.prog W = .ok (.agg L.toArray) W:=fun W=>by rw[q8v,if_pos a7,hL]
 obtain⟨i9,z9,b9,i7,j8,j4,j5,j6,i1⟩:=qh1
 obtain⟨la,k4,g3⟩:=zv R.live
 have g6:c2.xs=c.xs:=by rw[qa f2,qa f1]
 have nF:qu w5 (w5.alloc (.cells L.toArray 69)).drew:=((Upd.refl _ _).alloc _).drew
 have c0:(w5.alloc (.cells L.toArray 69)).drew.heap[w5.heap.size]? = some (.cells L.toArray 69 (0,0)):=qh w5 _
 have P6:=qb (R.new nF)
 have U6:=qb ((qa U5).trans (nF.mono (fun _ _ h=>h.elim)))
 have a6:=nF.cell d6 (fun h=>h)
 have h7:w.heap.size≤w5.heap.size:=by have:=zr (qa E5);omega
 have HL:=qb hL
 have f3:=qb f8
 have h0:=qb g6
 clear R P5 E5 U5 hL f8 g6
 refine qaw (fun w'=>w'.cell? ⟨g,47,none⟩=some lv) [4] (.of [0,1,2,3,4,5,6,7,8,9,10,11]) (by kernel_rfl) (by kernel_rfl) d6 ?_
 simp only[Plan.of]
 go_wp2_with ((with_reducible first|rfl|refine' ut ?_ ?_;rotate_left|refine' uu ?_)<;>intros)
 refine⟨trivial,?_⟩
 clear d6 nF rE i2
 generalize (w5.alloc (.cells L.toArray 69)).drew=w6 at c0 P6 U6 a6 ⊢
 generalize w5.heap.size=D at c0 h7 ⊢
 have I:=(qa P6).live
 unfold qrk at I
 rw[g3] at I
 have HN:=qb I
 clear I
 have i5:c2.xs.length<1000000:=by rw[qa h0];exact g1
 go_wp2_with (first | (at_builtin;refine wpList_append_own_at _ rfl (.tmp 77) (.tmp 80) 46 rfl 0 69 i9 _ 38 b9 Tryz.underlying46 i7 j8 j4 j5 j6 (by decide) _ _ _ rfl (qa HN) ⟨D,0,none⟩ 1 1 L rfl (by rw[i0]) ?c1 ?c2 ?c3 ?c4 ?c5 ?_) | ((with_reducible first|rfl|refine' ut ?_ ?_;rotate_left|refine' uu ?_)<;>intros))
 case c1=>exact World.news_of_block (cs:=L.toArray) (fr:=(0,0)) c0
 case c2=>rw[qa f3];exact qef _
 case c3=>unfold maxLen;omega
 case c4=>have:=Nat.mul_le_mul (show c2.xs.length+1≤1000000 by omega) i1;omega
 case c5=>omega
 intro v' wE U c6 _ b5
 obtain⟨a',k3,e8⟩:=zv U
 rw[←g3] at c6 b5
 have j3:LiveOk (qhp m):=⟨⟨⟨hm.id.1,by have:=hm.id.2;show m.id≤_;omega⟩,⟨hm.amount.1,by show m.amount≤_;omega⟩,by rw[show (qhp m).h.hash=qa5 m.hash from rfl,qd6 hm.len];exact hm.hash,hm.expiry⟩,⟨by show (-9223372036854775808:Int)≤0;decide,by show (0:Int)≤9223372036854775807;decide⟩⟩
 have d9:=(qa P6).appLive (qhp m) j3 i5 v' (by rw[←qa f3];exact U) c6 b5
 have uE:Upd (fun k=>lv.ownBlock=some k) w6 wE:=(Upd.refl _ _).grown c6 (fun k Z _=>Z)
 have d1:=uE.old (qa P6).at_ (fun e=>by
  obtain⟨h1,hc⟩:=qab (qa P6).live g e;exact qao (qa P6).at_ hc (by decide) rfl)
 have k7:wE.frozen? ⟨g,47,none⟩=false:=qo d1 47
 have k0:wE.cell? ⟨g,47,none⟩=some lv:=uE.cell a6 (fun e=>by
  obtain⟨h1,hc⟩:=qab (qa P6).live g e;exact qao (qa P6).at_ hc (by decide) rfl)
 have U7:=qb ((qa U6).trans d9.2)
 have P7:=qb d9.1
 have j7:=qb (qa U6).size
 rw[e8] at U7 P7
 clear U c6 b5 d9 uE d1 a6 c0 HN
 rw[e8]
 clear e8
 go_wp2_with ((with_reducible first|rfl|refine' ut ?_ ?_;rotate_left|refine' uu ?_)<;>intros)
 go_ret2
 have i4:({c2 with xs:=c2.xs++[qhp m]} : Ch)=c.added m:=by
  rw[qa f2,qa f1,qa g9];rfl
 have d8:=qa P7
 rw[i4] at d8
 rw[qa HO]
 refine⟨rfl,⟨_,_,_,d8.wider (fun k Z=> ?_) (fun k Z=> ?_)⟩,qa U7⟩
 ·have:=qa j7;rcases Z with Z | Z
  ·exact .inl Z
  ·exact .inr ⟨by omega,Z.2⟩
 ·rcases Z with Z | Z
  ·exact d8.lt k (.inl Z)
  ·exact Z.2
end
end Go.Proofs.YtfmkdoachjgjbaaGreatDoor
