/-
  Lives as flat rows of cells; slices.Clone (all of it stands in XLv now).
-/
import Derived.Test.YtfmkdoachjgjbaaGreatDoorVw5
import Derived.Test.YtfmkdoachjgjbaaGreatDoorMaf
import Derived.Test.YtfmkdoachjgjbaaGreatDoorCh4
import Derived.Test.YtfmkdoachjgjbaaGreatDoorMai
set_option linter.unusedVariables false
set_option linter.unusedSimpArgs false
namespace Go.Proofs.YtfmkdoachjgjbaaGreatDoor
end Go.Proofs.YtfmkdoachjgjbaaGreatDoor
namespace Go.Proofs.YtfmkdoachjgjbaaGreatDoor
open Go.RowKit Go.Sort
theorem q55(x:Live)(s:Int):qm {x with state:=s} = (qm x).set 36 (.int .i64 s):=by
 unfold qm;rw[List.set_append_right _ _ (by rw[qbf];omega),qbf];rfl
theorem qds.setState{w:World}{g off:Nat}{X:List Live}(h:qds w g off X){n:Nat}{x:Live}(E:X[n]? = some x)(s:Int) :
  qds (w.setCell ⟨g,off+n*38+36,none⟩ (.int .i64 s)) g off (X.set n {x with state:=s}):=by
 obtain⟨C,T,F,I,q⟩:=h
 refine⟨_,T,zv F _ _,by rw[Array.size_setIfInBounds,List.length_set];exact I,fun i y f j v=> ?_⟩
 have z:=(List.getElem?_eq_some_iff.1 E).1
 have H:off+n*38+38≤C.size:=by have:=Nat.mul_le_mul_right 38 (show n+1≤X.length from z);omega
 rw[Array.getElem?_setIfInBounds]
 rw[List.getElem?_set] at f
 by_cases e:n=i
 ·subst e;rw[if_pos rfl,if_pos z,Option.some.injEq] at f;subst f;rw[q55,List.getElem?_set];by_cases m:36=j
  ·subst m;rw[if_pos rfl,if_pos (by omega),if_pos rfl,if_pos (by rw[qbj];omega)]
  ·rw[if_neg (by omega),if_neg m];exact q n x E j v
 ·rw[if_neg e] at f;rw[if_neg ?_]
  ·exact q i y f j v
  ·rcases Nat.lt_or_gt_of_ne e with h | h
   ·have:=Nat.mul_le_mul_right 38 (show n+1≤i from h);omega
   ·have:=Nat.mul_le_mul_right 38 (show i+1≤n from h);omega
attribute [local go_sem ↓ high] qbc qbo
attribute [local go_sem] qdi qdx
def aft(ev:Int)(x:Live):Live:= {x with state:=qcr x.state x.own ev}
def qab(ev:Int)(xs:List Live):List Live:=xs.map (aft ev)
set_option maxRecDepth 100000 in
set_option maxHeartbeats 4000000 in
theorem qny(v:Value)(xs:List Live)(ev:Int)(hl:xs.length≤1048576)(w:World)(hG:Glob w)(hv:qgo w v xs) :
  Calls Tryz.prog 155 #[v,.int .i64 ev] w fun e w'=>∃u,e = .returned u∧qq w w'∧qie w.heap.size w' u (qab ev xs):=by
 have a8:∃a k c,v = .slice a k c:=by
  rcases hv with ⟨_,_,rfl,_⟩ | ⟨g,off,cap,rfl,_⟩
  ·exact⟨_,_,_,rfl⟩
  ·exact⟨_,_,_,rfl⟩
 obtain⟨va,vk,vc,rfl⟩:=a8
 go_enter Tryz.func155,Tryz.ntmps155
 go_wp2_with fail
 refine(qp2 _ xs hl w hv).mono ?_
 rintro e w1 ⟨u,rfl,n1,⟨ua,uc,rfl,rfl⟩ | ⟨g,cap,rfl,hg,hh⟩⟩
 ·obtain⟨O,rfl⟩:∃O:World,O=w1:=⟨_,rfl⟩;go_wp2_with fail
  go_loopw [12] (fun T wr=>T = .int .i64 0∧wr=O) (fun _ _=>0)
  case atStart=>exact⟨rfl,rfl⟩
  case round =>
   obtain⟨rfl,rfl⟩:=hrel;go_wp2
   first | go_ret2 | go_ret
   exact⟨_,rfl,n1,.inl ⟨_,_,rfl,rfl⟩⟩
 ·have b5:=hG.new n1;obtain⟨O,rfl⟩:∃O:World,O=w1:=⟨_,rfl⟩;go_wp2_with fail
  go_loopw [12] (fun T wr=>∃n:Nat,T = .int .i64 (n:Int)∧n≤xs.length∧Hid (qds wr g 0 (qab ev (xs.take n)++xs.drop n))∧qq w wr) (fun T _=>xs.length-(intOf T).toNat)
  case atStart=>exact⟨0,rfl,Nat.zero_le _,qb (by simpa [qab] using hh),n1⟩
  case round =>
   obtain⟨n,rfl,hn,Z,nr⟩:=hrel;by_cases L:n<xs.length
   ·obtain⟨x,hx⟩:∃x,xs[n]? = some x:=⟨_,List.getElem?_eq_getElem L⟩;have I:(qab ev (xs.take n)++xs.drop n)[n]? = some x:=by
     have K:(qab ev (xs.take n)).length=n:=by simp[qab];omega
     rw[List.getElem?_append_right (by omega),K,Nat.sub_self,List.getElem?_drop,Nat.add_zero];exact hx
    have F:=qa Z;have q:=F.row I;rw[Nat.zero_add] at q;have f:=F.setState I (qcr x.state x.own ev);obtain⟨CC,TT,i,N,E⟩:=id F;have b6:(n:Int)<(xs.length:Int):=by omega
    have S:stOk (wr.alloc (.cells #[.int .u64 0,.int .u64 0,.int .u8 0,.int .u8 0,.int .u8 0,.int .u8 0,.int .u8 0,.int .u8 0,.int .u8 0,.int .u8 0,.int .u8 0,.int .u8 0,.int .u8 0,.int .u8 0,.int .u8 0,.int .u8 0,.int .u8 0,.int .u8 0,.int .u8 0,.int .u8 0,.int .u8 0,.int .u8 0,.int .u8 0,.int .u8 0,.int .u8 0,.int .u8 0,.int .u8 0,.int .u8 0,.int .u8 0,.int .u8 0,.int .u8 0,.int .u8 0,.int .u8 0,.int .u8 0,.int .i64 0,.bool false,.int .i64 0,.bool false] 69)) wr.heap.size 0 38 (qm x).toArray=true:=qdu (qj _ _) (by decide) (by rw[List.size_toArray,qbj]) (by rw[List.all_toArray,List.all_eq_true];exact qe3 x);have m:=qkz wr #[.int .u64 0,.int .u64 0,.int .u8 0,.int .u8 0,.int .u8 0,.int .u8 0,.int .u8 0,.int .u8 0,.int .u8 0,.int .u8 0,.int .u8 0,.int .u8 0,.int .u8 0,.int .u8 0,.int .u8 0,.int .u8 0,.int .u8 0,.int .u8 0,.int .u8 0,.int .u8 0,.int .u8 0,.int .u8 0,.int .u8 0,.int .u8 0,.int .u8 0,.int .u8 0,.int .u8 0,.int .u8 0,.int .u8 0,.int .u8 0,.int .u8 0,.int .u8 0,.int .u8 0,.int .u8 0,.int .i64 0,.bool false,.int .i64 0,.bool false] 69 (qm x) (by rw[qbj];rfl);have V:=qfe x;have W:=qff x;have R:=qbj x;have HX:=qb hx;have J:=qb I;clear hx I f i N E F hh;generalize qm x=C at q S m V W R;go_upto_region 5 with fail;obtain⟨z,U⟩:=m;generalize (wr.alloc (.cells #[.int .u64 0,.int .u64 0,.int .u8 0,.int .u8 0,.int .u8 0,.int .u8 0,.int .u8 0,.int .u8 0,.int .u8 0,.int .u8 0,.int .u8 0,.int .u8 0,.int .u8 0,.int .u8 0,.int .u8 0,.int .u8 0,.int .u8 0,.int .u8 0,.int .u8 0,.int .u8 0,.int .u8 0,.int .u8 0,.int .u8 0,.int .u8 0,.int .u8 0,.int .u8 0,.int .u8 0,.int .u8 0,.int .u8 0,.int .u8 0,.int .u8 0,.int .u8 0,.int .u8 0,.int .u8 0,.int .i64 0,.bool false,.int .i64 0,.bool false] 69)).setCells wr.heap.size 0 C=Y at z U ⊢
    have b3:Y.cell? ⟨wr.heap.size,35,none⟩=some (.bool x.own):=by rw[qg z,List.getElem?_toArray];exact V
    have b4:Y.cell? ⟨wr.heap.size,36,none⟩=some (.int .i64 x.state):=by rw[qg z,List.getElem?_toArray];exact W
    have a6:Glob Y:=hG.new (nr.trans U);clear S q;go_wp2_with fail;refine(qum x.state ev x.own Y a6).mono ?_;rintro e X ⟨rfl,q2⟩;have H:qds X g 0 (qab ev (xs.take n)++xs.drop n):=((qa Z).upd U (fun h=>h)).upd (q2.upd (fun _=>False)) (fun h=>h);have f:=H.setState (qa J) (qcr x.state x.own ev);have M:=H.row (qa J);obtain⟨CC,TT,i,N,E⟩:=id H;have b7:X.cell? ⟨g,n*38+36,none⟩=some (.int .i64 x.state):=by
     rw[qg i];have:=E n x (qa J) 36 (by decide);rw[Nat.zero_add] at this;rw[this,qff]
    have b8:X.frozen? ⟨g,n*38+36,none⟩=false:=qu i _;rw[Nat.zero_add] at f;have P:=qb f;have n2:qq w X:=(nr.trans U).then (q2.upd (fun _=>False)) (fun _ _ h=>h.elim);clear f M i N E H b3 b4 z U;go_wp2;go_roundw
    case rel =>
     refine⟨n+1,by go_num,by omega,qb ?_,n2.setCell (fun h=>by have h1:g<w.heap.size:=h;omega) _⟩;have:=qa P;have e:(qab ev (xs.take n)++xs.drop n).set n {x with state:=qcr x.state x.own ev} = qab ev (xs.take (n+1))++xs.drop (n+1):=by
      have K:(qab ev (xs.take n)).length=n:=by simp[qab];omega
      rw[List.set_append_right _ _ (by omega),K,Nat.sub_self,List.take_add_one,qa HX];have hd:xs.drop n=x::xs.drop (n+1):=by
       rw[List.drop_eq_getElem_cons L];congr 1;have:=qa HX;rw[List.getElem?_eq_getElem L] at this;exact Option.some.inj this
      rw[hd];simp[qab,aft]
     rwa [e] at this
    case measure=>simp[intOf];omega
   ·obtain rfl:n=xs.length:=by omega
    have hf:qds wr g 0 (qab ev xs):=by have:=qa Z;simpa using this
    have a7:(qab ev xs).length=xs.length:=by simp[qab]
    have HF:=qb hf;clear hf hh;go_wp2
    first | go_ret2 | go_ret
    exact⟨_,rfl,nr,.inr ⟨g,0,_,by rw[a7];rfl,hg,(qa HF).toL⟩⟩
end Go.Proofs.YtfmkdoachjgjbaaGreatDoor
namespace Go.Proofs.YtfmkdoachjgjbaaGreatDoor
open Go.RowKit
attribute [local go_sem ↓ high] qbc qbo qce qga
attribute [local go_sem] qdi qdx qfb qrt qw
def qcn(c:Ch)(x:Live):Ch:=if x.state=9 then c.give (x.own != x.paid) x.h.amount else c
def qel(xs:List Live):List Live:=xs.filter fun x=> !(x.state==9)
def Ch.goOn(c:Ch)(ev:Int):Ch:= {(qab ev c.xs).foldl qcn c with xs:=qel (qab ev c.xs)}
theorem qw7{xs:List Live}{i:Nat}{x:Live}(f:xs[i]? = some x):qel (xs.take (i+1))=qel (xs.take i)++(if x.state=9 then [] else [x]):=by
 unfold qel;rw[List.take_add_one,f,List.filter_append];by_cases h:x.state=9<;>simp[h]
theorem qwn{xs:List Live}{i:Nat}{x:Live}(c:Ch)(f:xs[i]? = some x):(xs.take (i+1)).foldl qcn c=qcn ((xs.take i).foldl qcn c) x:=by
 rw[List.take_add_one,f,List.foldl_append];rfl
theorem q1m{st:Int}(h : -9223372036854775808≤st∧st≤9223372036854775807)(own:Bool)(ev:Int) : -9223372036854775808≤qcr st own ev∧qcr st own ev≤9223372036854775807:=by
 unfold qcr;split
 ·rename_i f;have:=f.1;unfold qly at this;simp at this;omega
 ·exact h
theorem q3e{x:Live}(h:LiveOk x)(ev:Int):LiveOk (aft ev x):=⟨h.h,q1m h.state _ _⟩
theorem ChP.newLive{R C:World}{g:Nat}{S:Nat→Prop}{c:Ch}{V P N:Value}(h:ChP R g S c V P N)(w0:World)(u:Upd (· = g) w0 R)(u2:qq R C)(z:Value)(F:List Live)(Z:∀y∈F,LiveOk y)(J:F.length≤1000000)(i:C.ownsRow w0.heap.size 69 38 z F.length (F.flatMap qm)) :
  ChP (C.setCell ⟨g,47,none⟩ z) g (Fr S w0 (C.setCell ⟨g,47,none⟩ z)) {c with xs:=F} z P N:=by
 have H:=h.new u2
 have M:Upd (· = g) C (C.setCell ⟨g,47,none⟩ z):=(Upd.refl _ _).set1 47 _
 have E:=zv H.at_ 47 z
 rw[qu8 c V P N h.ok.s.seed F] at E
 have K:∀k,z.ownBlock=some k→w0.heap.size≤k:=by
  intro k f;rcases i.2 with ⟨e,_⟩ | ⟨U,cap,q,e,W,_⟩
  ·rw[e] at f;simp[Value.ownBlock] at f
  ·rw[e] at f;simp[Value.ownBlock] at f;omega
 have L:∀k,z.ownBlock=some k→k<C.heap.size:=fun k f=>by
  obtain⟨q,O⟩:=qal i k f;exact zr O
 have m:C.ownsRow 0 69 38 z F.length (F.flatMap qm):=by
  refine⟨i.1,?_⟩;rcases i.2 with e | ⟨U,cap,q,e,W,r⟩
  ·exact .inl e
  ·exact .inr ⟨U,cap,q,e,Nat.zero_le _,r⟩
 have I:∀ {T:TypeId} {v:Value} {n:Nat} {xs:List Value},T≠126→C.ownsRow 0 T 38 v n xs→∀k,v.ownBlock=some k→k≠g:=by
  intro T v n xs X Y k f e;obtain⟨q,O⟩:=qal Y k f;exact qay O H.at_ X e
 have hz:=M.size
 refine⟨E,⟨h.ok.s,h.ok.signed,h.ok.heard,h.ok.nextOwn,h.ok.nextTheirs,h.ok.loc,h.ok.rem,Z,J,h.ok.shelf,h.ok.news,h.ok.last,h.ok.many⟩,?_,?_,?_,.inl h.inG,?_,fun k e=> .inl (h.inN k e),fun k e=> .inl (h.inA k e),h.sep,?_⟩
 ·exact zk m M (fun k f e=>I (by decide) m k f e)
 ·exact zk H.news M (fun k f e=>I (by decide) H.news k f e)
 ·exact zk H.last M (fun k f e=>I (by decide) H.last k f e)
 ·intro k f;have:=L k f;exact .inr ⟨K k f,by omega⟩
 ·rintro k (f | f)
  ·have:=H.lt k f;omega
  ·exact f.2
set_option maxRecDepth 100000 in
set_option maxHeartbeats 2000000 in
theorem qkt(g:Nat)(S:Nat→Prop)(c:Ch)(ev:Int)(w:World)(h:ChS w g S c)(hG:Glob w) :
  Calls Tryz.prog 119 #[.pointer (some ⟨g,0,none⟩),.int .i64 ev] w fun e w'=>e = .returned (.tuple #[])∧ChS w' g (Fr S w w') (c.goOn ev)∧Upd S w w':=by
 obtain⟨lv,nv,av,h⟩:=h
 have K:w.cell? ⟨g,47,none⟩=some lv:=h.toR.live
 have L:=qny lv c.xs ev (by have:=h.ok.few;omega) w hG h.toI.lives
 obtain⟨i9,z9,b9,d7,f2,e9,f0,f1,d6⟩:=qj9
 have O:=qb h
 obtain⟨la,f6,e4⟩:=qaa h.live
 rw[e4] at K L
 clear h
 go_enter Tryz.func119,Tryz.ntmps119
 go_wp2_with fail
 refine L.mono ?_
 rintro e w1 ⟨u,rfl,n1,hu⟩
 obtain⟨ua,f7,rfl,C⟩:=hu.row
 have b4:(qab ev c.xs).length≤1000000:=by have:=(qa O).ok.few;simp[qab];omega
 have b7:∀y∈qab ev c.xs,LiveOk y:=by
  intro y hy;obtain⟨x,hx,rfl⟩:=List.mem_map.1 hy;exact q3e ((qa O).ok.xs x hx) ev
 have a8:c.goOn ev = {(qab ev c.xs).foldl qcn c with xs:=qel (qab ev c.xs)} := rfl
 have c2:=qb a8
 have d2:=qb b7
 clear L hu K b7 a8
 generalize e8:qab ev c.xs=v at *
 clear e8
 have h1:=(qa O).new n1
 have f4:g<w.heap.size:=zr (qa O).at_
 have g6:(v.length:Int)≤1000000:=by omega
 have d4:=qb h1
 have g8:=n1.size
 clear h1
 go_wp2_with fail
 go_loopw [4,6,14] (fun kv _ iv wr=>∃i:Nat,iv = .int .i64 (i:Int)∧i≤v.length∧wr.ownsRow w1.heap.size 69 38 kv (qel (v.take i)).length ((qel (v.take i)).flatMap qm)∧Hid (ChP wr g S ((v.take i).foldl qcn c) lv nv av)∧Upd (· = g) w1 wr) (fun _ _ iv _=>v.length-(intOf iv).toNat)
 case atStart=>exact⟨0,rfl,Nat.zero_le _,World.ownsRow_nil _ _ _ _,d4,Upd.refl _ _⟩
 case round =>
  obtain⟨i,rfl,hi,z,HC,nr⟩:=hrel;obtain⟨F,rfl⟩:∃F:World,F=wr:=⟨_,rfl⟩;obtain⟨ka,b8,e0⟩:=qaa z;subst e0;by_cases e1:i<v.length
  ·obtain⟨x,H⟩:∃x,v[i]? = some x:=⟨_,List.getElem?_eq_getElem e1⟩;obtain⟨g',off,rfl,Z,hh⟩:=C i x H;have b6:=(hh.upd nr (fun e=>by omega)).row H;have g5:(i:Int)<(v.length:Int):=by omega
   have e6:=qjo F x;have N:=qjg F x;have b3:=qw7 H;have a6:=qwn c H;have g7:(qel (v.take i)).length≤i:=by
    unfold qel;refine Nat.le_trans (List.length_filter_le _ _) ?_;rw[List.length_take];omega
   have HO:=qb z;have HK:=qb b3;have HT:=qb a6;clear b3 a6 H hh C z;go_upto_region 4 with fail;obtain⟨I,R⟩:=N;generalize (F.alloc (.cells (qm Live.zero).toArray 69)).setCells F.heap.size 0 (qm x)=wb at I R ⊢;have d3:wb.cell? ⟨F.heap.size,36,none⟩=some (.int .i64 x.state):=by rw[qg I,List.getElem?_toArray];exact qff x
   have e5:=nr.size;have g4:w1.heap.size≤F.heap.size:=e5;have U:=qb ((qa HC).new R);have c0:=nr.then (R.mono (T:=fun _=>False) (fun _ _ h=>h)) (fun _ _ h=>h.elim);clear e6 b6;by_cases P:x.state=9
   ·have f8:wb.cell? ⟨F.heap.size,35,none⟩=some (.bool x.own):=by rw[qg I,List.getElem?_toArray];exact qfe x
    have f9:wb.cell? ⟨F.heap.size,37,none⟩=some (.bool x.paid):=by rw[qg I,List.getElem?_toArray];exact qnp x
    have d1:wb.cell? ⟨F.heap.size,1,none⟩=some (.int .u64 x.h.amount):=by rw[qg I,List.getElem?_toArray];exact q53 x
    have a7:=fun(W:World) (q:Q wb W)=>q0s g S _ lv nv av (x.own != x.paid) x.h.amount W ((qa U).upd (q.upd (fun _=>False)) (fun _ _ h=>h))
    have V:=qb a7;rw[P] at d3;clear a7 I;go_wp2_with fail;refine(qa V _ (Q.refl _)).mono ?_;rintro e w2 ⟨rfl,b5,u2⟩;have M:qcn ((v.take i).foldl qcn c) x=((v.take i).foldl qcn c).give (x.own != x.paid) x.h.amount:=by unfold qcn;rw[if_pos P]
    have c9:=qb b5;have f3:=c0.trans u2;have c7:=qb (zk (zk (qa HO) R (fun _ _ h=>h)) u2 (fun k f e=>by
     have Z:=(qa HO);rcases Z.2 with ⟨e,_⟩ | ⟨g2,cap,X,Y,e3,_⟩
     ·rw[e] at f;simp[Value.ownBlock] at f
     ·rw[Y] at f;simp[Value.ownBlock] at f;omega))
    clear b5 V;go_wp2_with fail;go_roundw
    case rel =>
     refine⟨i+1,by go_num,by omega,?_,?_,f3⟩
     ·rw[qa HK,if_pos P,List.append_nil];exact qa c7
     ·rw[qa HT,M];exact c9
    case measure=>simp[intOf];omega
   ·have g1:(x.state==9)=false:=by simpa using P
    have g9:=qat I 38 (by rw[List.size_toArray,qbj]);have e7:=qbj x;have HB:=qb I;have c8:=qb (zk (qa HO) R (fun _ _ h=>h));have g3:wb.heap.size=wb.heap.size:=rfl;have f5:=R.size;clear I;go_wp2_with (at_builtin;refine wpList_append_own _ rfl (.tmp 31) (.tmp 33) 46 rfl w1.heap.size 69 i9 _ 38 b9 Tryz.underlying46 d7 f2 e9 f0 f1 (by decide) _ _ _ rfl ((qa c8).alloc _) ⟨wb.heap.size,0,none⟩ 1 1 (qm x) rfl (by rw[e7]) ?c1 (qe3 x) ?c3 ?c4 ?c5 ?_)
    case c3=>unfold maxLen;omega
    case c4=>have:=Nat.mul_le_mul (show (qel (v.take i)).length+1≤1000000 by omega) d6;omega
    case c5=>omega
    intro v' w5 E m _;obtain⟨a5,k5,c5,rfl⟩:=ql1 E;have hO:=qa HO;have d5:qq wb (wb.alloc (.cells (qm x).toArray 69)):=(Upd.refl _ _).alloc _;have n5:Upd (· = g) w1 w5:=(c0.alloc _).grown m (fun k f d8=>by
     rcases hO.2 with ⟨e,_⟩ | ⟨g2,cap,X,Y,e3,_⟩
     ·rw[e] at f;simp[Value.ownBlock] at f
     ·rw[Y] at f;simp[Value.ownBlock] at f;omega)
    have u5:Upd (fun k=>w1.heap.size≤k) (wb.alloc (.cells (qm x).toArray 69)) w5:=(Upd.refl _ _).grown m (fun k f d8=>by
     rcases hO.2 with ⟨e,_⟩ | ⟨g2,cap,X,Y,e3,_⟩
     ·rw[e] at f;simp[Value.ownBlock] at f
     ·rw[Y] at f;simp[Value.ownBlock] at f;omega)
    have d0:=qb (((qa U).new d5).upd u5 (fun k f e=>by have:=(qa O).lt k f;omega));have M:qcn ((v.take i).foldl qcn c) x=(v.take i).foldl qcn c:=by unfold qcn;rw[if_neg P]
    have c6:=qb E;clear E m HB;go_wp2_with fail;go_roundw
    case rel =>
     refine⟨i+1,by go_num,by omega,?_,?_,n5⟩
     ·rw[qa HK,if_neg P,List.length_append,List.flatMap_append];have:[x].flatMap qm=qm x:=by simp
      rw[this];exact qa c6
     ·rw[qa HT,M];exact d0
    case measure=>simp[intOf];omega
  ·obtain rfl:i=v.length:=by omega
   rw[List.take_length] at *
   have hP:=qa HC;have K:F.cell? ⟨g,47,none⟩=some lv:=hP.toR.live;have g0:F.frozen? ⟨g,47,none⟩=false:=qu hP.at_ 47;have d9:(qel v).length≤1000000:=Nat.le_trans (List.length_filter_le _ _) b4;have J:=hP.newLive w1 nr (Upd.refl _ _) _ (qel v) (fun y hy=>qa d2 y (List.mem_filter.1 hy).1) d9 z;have uF:Upd (· = g) F (F.setCell ⟨g,47,none⟩ (.slice ka (qel v).length b8)):=(Upd.refl _ _).set1 47 _;have HF:=qb J;have HU:=qb (nr.trans uF);clear J z uF C hP;go_wp2_with fail;go_end0;have hU:=qa HU;have hF:=qa HF;have h0:=qa O;rw[qa c2];refine⟨rfl,⟨_,_,_,hF.wider (fun k f=> ?_) (fun k f=> ?_)⟩,(n1.mono (fun _ _ h=>h.elim)).trans (hU.mono (fun k _ e=>by rw[e];exact h0.inG))⟩
   ·rcases f with f | f
    ·exact .inl f
    ·exact .inr ⟨by omega,f.2⟩
   ·rcases f with f | f
    ·exact hF.lt k (.inl f)
    ·exact f.2
end Go.Proofs.YtfmkdoachjgjbaaGreatDoor
