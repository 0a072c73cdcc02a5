/-
  Lives as flat rows of cells; slices.Clone (all of it stands in XLv now).
-/
import Derived.Test.YtjpmomdechibmaaGreatDoorVw5
import Derived.Test.YtjpmomdechibmaaGreatDoorMab
import Derived.Test.YtjpmomdechibmaaGreatDoorCh4
import Derived.Test.YtjpmomdechibmaaGreatDoorMah
set_option linter.unusedVariables false
set_option linter.unusedSimpArgs false
namespace Go.Proofs.YtjpmomdechibmaaGreatDoor
end Go.Proofs.YtjpmomdechibmaaGreatDoor
namespace Go.Proofs.YtjpmomdechibmaaGreatDoor
open Go.RowKit Go.Sort
theorem q60(x:Live)(s:Int):ql {x with state:=s} = (ql x).set 36 (.int .i64 s):=by
 unfold ql
 rw[List.set_append_right _ _ (by rw[qba];omega),qba]
 rfl
theorem qfp.setState{w:World}{g off:Nat}{X:List Live}(h:qfp w g off X){n:Nat}{x:Live}(t:X[n]? = some x)(s:Int) :
  qfp (w.setCell ⟨g,off+n*38+36,none⟩ (.int .i64 s)) g off (X.set n {x with state:=s}):=by
 obtain⟨C,T,v,D,m⟩:=h
 refine⟨_,T,zu v _ _,by rw[Array.size_setIfInBounds,List.length_set];exact D,fun i y f j o=> ?_⟩
 have q:=(List.getElem?_eq_some_iff.1 t).1
 have z:off+n*38+38≤C.size:=by have:=Nat.mul_le_mul_right 38 (show n+1≤X.length from q);omega
 rw[Array.getElem?_setIfInBounds]
 rw[List.getElem?_set] at f
 by_cases e:n=i
 ·subst e
  rw[if_pos rfl,if_pos q,Option.some.injEq] at f
  subst f
  rw[q60,List.getElem?_set]
  by_cases l:36=j
  ·subst l
   rw[if_pos rfl,if_pos (by omega),if_pos rfl,if_pos (by rw[qas];omega)]
  ·rw[if_neg (by omega),if_neg l]
   exact m n x t j o
 ·rw[if_neg e] at f
  rw[if_neg ?_]
  ·exact m i y f j o
  ·rcases Nat.lt_or_gt_of_ne e with h | h
   ·have:=Nat.mul_le_mul_right 38 (show n+1≤i from h);omega
   ·have:=Nat.mul_le_mul_right 38 (show i+1≤n from h);omega
attribute [local go_sem ↓ high] qcv qdm
attribute [local go_sem] qg6 qjd
def aft(ev:Int)(x:Live):Live:= {x with state:=q8 x.state x.own ev}
def zk(ev:Int)(xs:List Live):List Live:=xs.map (aft ev)
set_option maxRecDepth 100000 in
set_option maxHeartbeats 4000000 in
theorem qoy(v:Value)(xs:List Live)(ev:Int)(hl:xs.length≤1048576)(w:World)(hG:Glob w)(hv:qhq w v xs) :
  Calls Tryz.prog 56 #[v,.int .i64 ev] w fun e w'=>∃u,e = .returned u∧qx w w'∧qjo w.heap.size w' u (zk ev xs):=by
 have Y:∃a k c,v = .slice a k c:=by
  rcases hv with ⟨_,_,rfl,_⟩ | ⟨g,off,cap,rfl,_⟩
  ·exact⟨_,_,_,rfl⟩
  ·exact⟨_,_,_,rfl⟩
 obtain⟨va,vk,vc,rfl⟩:=Y
 go_enter Tryz.func56,Tryz.ntmps56
 go_wp2_with fail
 refine(qrl _ xs hl w hv).mono ?_
 rintro e w1 ⟨u,rfl,n1,⟨ua,uc,rfl,rfl⟩ | ⟨g,cap,rfl,hg,W⟩⟩
 ·obtain⟨I,rfl⟩:∃I:World,I=w1:=⟨_,rfl⟩
  go_wp2_with fail
  go_loopw [12] (fun M wr=>M = .int .i64 0∧wr=I) (fun _ _=>0)
  case atStart=>exact⟨rfl,rfl⟩
  case round =>
   obtain⟨rfl,rfl⟩:=hrel
   go_wp2
   first | go_ret2 | go_ret
   exact⟨_,rfl,n1,.inl ⟨_,_,rfl,rfl⟩⟩
 ·have a6:=hG.new n1
  obtain⟨I,rfl⟩:∃I:World,I=w1:=⟨_,rfl⟩
  go_wp2_with fail
  go_loopw [12] (fun M wr=>∃n:Nat,M = .int .i64 (n:Int)∧n≤xs.length∧Hid (qfp wr g 0 (zk ev (xs.take n)++xs.drop n))∧qx w wr) (fun M _=>xs.length-(intOf M).toNat)
  case atStart=>exact⟨0,rfl,Nat.zero_le _,qb (by simpa [zk] using W),n1⟩
  case round =>
   obtain⟨n,rfl,hn,U,nr⟩:=hrel
   by_cases E:n<xs.length
   ·obtain⟨x,Z⟩:∃x,xs[n]? = some x:=⟨_,List.getElem?_eq_getElem E⟩
    have y:(zk ev (xs.take n)++xs.drop n)[n]? = some x:=by
     have D:(zk ev (xs.take n)).length=n:=by simp[zk];omega
     rw[List.getElem?_append_right (by omega),D,Nat.sub_self,List.getElem?_drop,Nat.add_zero];exact Z
    have q:=qa U
    have l:=q.row y
    rw[Nat.zero_add] at l
    have f:=q.setState y (q8 x.state x.own ev)
    obtain⟨CC,TT,i,H,o⟩:=id q
    have a7:(n:Int)<(xs.length:Int):=by omega
    have L:stOk (wr.alloc (.cells #[.int .u64 0,.int .u64 0,.int .u8 0,.int .u8 0,.int .u8 0,.int .u8 0,.int .u8 0,.int .u8 0,.int .u8 0,.int .u8 0,.int .u8 0,.int .u8 0,.int .u8 0,.int .u8 0,.int .u8 0,.int .u8 0,.int .u8 0,.int .u8 0,.int .u8 0,.int .u8 0,.int .u8 0,.int .u8 0,.int .u8 0,.int .u8 0,.int .u8 0,.int .u8 0,.int .u8 0,.int .u8 0,.int .u8 0,.int .u8 0,.int .u8 0,.int .u8 0,.int .u8 0,.int .u8 0,.int .i64 0,.bool false,.int .i64 0,.bool false] 81)) wr.heap.size 0 38 (ql x).toArray=true:=qe0 (qi _ _) (by decide) (by rw[List.size_toArray,qas]) (by rw[List.all_toArray,List.all_eq_true];exact qdy x)
    have j:=qlv wr #[.int .u64 0,.int .u64 0,.int .u8 0,.int .u8 0,.int .u8 0,.int .u8 0,.int .u8 0,.int .u8 0,.int .u8 0,.int .u8 0,.int .u8 0,.int .u8 0,.int .u8 0,.int .u8 0,.int .u8 0,.int .u8 0,.int .u8 0,.int .u8 0,.int .u8 0,.int .u8 0,.int .u8 0,.int .u8 0,.int .u8 0,.int .u8 0,.int .u8 0,.int .u8 0,.int .u8 0,.int .u8 0,.int .u8 0,.int .u8 0,.int .u8 0,.int .u8 0,.int .u8 0,.int .u8 0,.int .i64 0,.bool false,.int .i64 0,.bool false] 81 (ql x) (by rw[qas];rfl)
    have O:=qi3 x
    have P:=qfk x
    have K:=qas x
    have HX:=qb Z
    have z:=qb y
    clear Z y f i H o q W
    generalize ql x=C at l L j O P K
    go_upto_region 5 with fail
    obtain⟨m,N⟩:=j
    generalize (wr.alloc (.cells #[.int .u64 0,.int .u64 0,.int .u8 0,.int .u8 0,.int .u8 0,.int .u8 0,.int .u8 0,.int .u8 0,.int .u8 0,.int .u8 0,.int .u8 0,.int .u8 0,.int .u8 0,.int .u8 0,.int .u8 0,.int .u8 0,.int .u8 0,.int .u8 0,.int .u8 0,.int .u8 0,.int .u8 0,.int .u8 0,.int .u8 0,.int .u8 0,.int .u8 0,.int .u8 0,.int .u8 0,.int .u8 0,.int .u8 0,.int .u8 0,.int .u8 0,.int .u8 0,.int .u8 0,.int .u8 0,.int .i64 0,.bool false,.int .i64 0,.bool false] 81)).setCells wr.heap.size 0 C=T at m N ⊢
    have a4:T.cell? ⟨wr.heap.size,35,none⟩=some (.bool x.own):=by rw[qg m,List.getElem?_toArray];exact O
    have a5:T.cell? ⟨wr.heap.size,36,none⟩=some (.int .i64 x.state):=by rw[qg m,List.getElem?_toArray];exact P
    have V:Glob T:=hG.new (nr.trans N)
    clear L l
    go_wp2_with fail
    refine(qwr x.state ev x.own T V).mono ?_
    rintro e R ⟨rfl,q2⟩
    have t:qfp R g 0 (zk ev (xs.take n)++xs.drop n):=((qa U).upd N (fun h=>h)).upd (q2.upd (fun _=>False)) (fun h=>h)
    have f:=t.setState (qa z) (q8 x.state x.own ev)
    have F:=t.row (qa z)
    obtain⟨CC,TT,i,H,o⟩:=id t
    have a8:R.cell? ⟨g,n*38+36,none⟩=some (.int .i64 x.state):=by
     rw[qg i]
     have:=o n x (qa z) 36 (by decide)
     rw[Nat.zero_add] at this
     rw[this,qfk]
    have a9:R.frozen? ⟨g,n*38+36,none⟩=false:=qm i _
    rw[Nat.zero_add] at f
    have J:=qb f
    have n2:qx w R:=(nr.trans N).then (q2.upd (fun _=>False)) (fun _ _ h=>h.elim)
    clear f F i H o t a4 a5 m N
    go_wp2
    go_roundw
    case rel =>
     refine⟨n+1,by go_num,by omega,qb ?_,n2.setCell (fun h=>by have h1:g<w.heap.size:=h;omega) _⟩
     have:=qa J
     have e:(zk ev (xs.take n)++xs.drop n).set n {x with state:=q8 x.state x.own ev} = zk ev (xs.take (n+1))++xs.drop (n+1):=by
      have D:(zk ev (xs.take n)).length=n:=by simp[zk];omega
      rw[List.set_append_right _ _ (by omega),D,Nat.sub_self,List.take_add_one,qa HX]
      have hd:xs.drop n=x::xs.drop (n+1):=by
       rw[List.drop_eq_getElem_cons E]
       congr 1
       have:=qa HX
       rw[List.getElem?_eq_getElem E] at this
       exact Option.some.inj this
      rw[hd]
      simp[zk,aft]
     rwa [e] at this
    case measure=>simp[intOf];omega
   ·obtain rfl:n=xs.length:=by omega
    have hf:qfp wr g 0 (zk ev xs):=by have:=qa U;simpa using this
    have X:(zk ev xs).length=xs.length:=by simp[zk]
    have HF:=qb hf
    clear hf W
    go_wp2
    first | go_ret2 | go_ret
    exact⟨_,rfl,nr,.inr ⟨g,0,_,by rw[X];rfl,hg,(qa HF).toL⟩⟩
end Go.Proofs.YtjpmomdechibmaaGreatDoor
namespace Go.Proofs.YtjpmomdechibmaaGreatDoor
open Go.RowKit
attribute [local go_sem ↓ high] qcv qdm qf3 qg3
attribute [local go_sem] qg6 qjd qoe qtc zn
def qbh(c:Ch)(x:Live):Ch:=if x.state=9 then c.give (x.own != x.paid) x.h.amount else c
def qcl(xs:List Live):List Live:=xs.filter fun x=> !(x.state==9)
def Ch.goOn(c:Ch)(ev:Int):Ch:= {(zk ev c.xs).foldl qbh c with xs:=qcl (zk ev c.xs)}
theorem qzd{xs:List Live}{i:Nat}{x:Live}(f:xs[i]? = some x):qcl (xs.take (i+1))=qcl (xs.take i)++(if x.state=9 then [] else [x]):=by
 unfold qcl
 rw[List.take_add_one,f,List.filter_append]
 by_cases h:x.state=9<;>simp[h]
theorem qy0{xs:List Live}{i:Nat}{x:Live}(c:Ch)(f:xs[i]? = some x):(xs.take (i+1)).foldl qbh c=qbh ((xs.take i).foldl qbh c) x:=by
 rw[List.take_add_one,f,List.foldl_append]
 rfl
theorem q3m{st:Int}(h : -9223372036854775808≤st∧st≤9223372036854775807)(own:Bool)(ev:Int) : -9223372036854775808≤q8 st own ev∧q8 st own ev≤9223372036854775807:=by
 unfold q8
 split
 ·rename_i f
  have:=f.1
  unfold qm1 at this
  simp at this
  omega
 ·exact h
theorem q4x{x:Live}(h:LiveOk x)(ev:Int):LiveOk (aft ev x):=⟨h.h,q3m h.state _ _⟩
theorem ChP.newLive{I o:World}{g:Nat}{S:Nat→Prop}{c:Ch}{J nv F:Value}(h:ChP I g S c J nv F)(w0:World)(u:Upd (· = g) w0 I)(O:qx I o)(m:Value)(t:List Live)(N:∀y∈t,LiveOk y)(z:t.length≤1000000)(i:o.ownsRow w0.heap.size 81 38 m t.length (t.flatMap ql)) :
  ChP (o.setCell ⟨g,47,none⟩ m) g (Fr S w0 (o.setCell ⟨g,47,none⟩ m)) {c with xs:=t} m nv F:=by
 have w:=h.new O
 have E:Upd (· = g) o (o.setCell ⟨g,47,none⟩ m):=(Upd.refl _ _).set1 47 _
 have q:=zu w.at_ 47 m
 rw[qxl c J nv F h.ok.s.seed t] at q
 have C:∀k,m.ownBlock=some k→w0.heap.size≤k:=by
  intro k f
  rcases i.2 with ⟨e,_⟩ | ⟨g',cap,l,e,K,_⟩
  ·rw[e] at f;simp[Value.ownBlock] at f
  ·rw[e] at f;simp[Value.ownBlock] at f;omega
 have D:∀k,m.ownBlock=some k→k<o.heap.size:=fun k f=>by
  obtain⟨l,H⟩:=qw i k f
  exact zq H
 have j:o.ownsRow 0 81 38 m t.length (t.flatMap ql):=by
  refine⟨i.1,?_⟩
  rcases i.2 with e | ⟨g',cap,l,e,K,r⟩
  ·exact .inl e
  ·exact .inr ⟨g',cap,l,e,Nat.zero_le _,r⟩
 have x:∀ {T:TypeId} {v:Value} {n:Nat} {xs:List Value},T≠92→o.ownsRow 0 T 38 v n xs→∀k,v.ownBlock=some k→k≠g:=by
  intro T v n xs L M k f e
  obtain⟨l,H⟩:=qw M k f
  exact za H w.at_ L e
 have P:=E.size
 refine⟨q,⟨h.ok.s,h.ok.signed,h.ok.heard,h.ok.nextOwn,h.ok.nextTheirs,h.ok.loc,h.ok.rem,N,z,h.ok.shelf,h.ok.news,h.ok.last,h.ok.many⟩,?_,?_,?_,.inl h.inG,?_,fun k e=> .inl (h.inN k e),fun k e=> .inl (h.inA k e),h.sep,?_⟩
 ·exact qq j E (fun k f e=>x (by decide) j k f e)
 ·exact qq w.news E (fun k f e=>x (by decide) w.news k f e)
 ·exact qq w.last E (fun k f e=>x (by decide) w.last k f e)
 ·intro k f
  have:=D k f
  exact .inr ⟨C k f,by omega⟩
 ·rintro k (f | f)
  ·have:=w.lt k f
   omega
  ·exact f.2
set_option maxRecDepth 100000 in
set_option maxHeartbeats 2000000 in
theorem qlp(g:Nat)(S:Nat→Prop)(c:Ch)(ev:Int)(w:World)(h:ChS w g S c)(hG:Glob w) :
  Calls Tryz.prog 40 #[.pointer (some ⟨g,0,none⟩),.int .i64 ev] w fun e w'=>e = .returned (.tuple #[])∧ChS w' g (Fr S w w') (c.goOn ev)∧Upd S w w':=by
 obtain⟨lv,nv,av,h⟩:=h
 have E:w.cell? ⟨g,47,none⟩=some lv:=h.toR.live
 have F:=qoy lv c.xs ev (by have:=h.ok.few;omega) w hG h.toI.lives
 obtain⟨i9,z9,b9,c9,e5,e0,e1,e4,c8⟩:=qi4
 have J:=qb h
 obtain⟨la,e9,d5⟩:=qv h.live
 rw[d5] at E F
 clear h
 go_enter Tryz.func40,Tryz.ntmps40
 go_wp2_with fail
 refine F.mono ?_
 rintro e w1 ⟨u,rfl,n1,hu⟩
 obtain⟨ua,f0,rfl,o⟩:=hu.row
 have Z:(zk ev c.xs).length≤1000000:=by have:=(qa J).ok.few;simp[zk];omega
 have a7:∀y∈zk ev c.xs,LiveOk y:=by
  intro y hy
  obtain⟨x,hx,rfl⟩:=List.mem_map.1 hy
  exact q4x ((qa J).ok.xs x hx) ev
 have X:c.goOn ev = {(zk ev c.xs).foldl qbh c with xs:=qcl (zk ev c.xs)} := rfl
 have b3:=qb X
 have c0:=qb a7
 clear F hu E a7 X
 generalize d9:zk ev c.xs=l at *
 clear d9
 have h1:=(qa J).new n1
 have e7:g<w.heap.size:=zq (qa J).at_
 have f8:(l.length:Int)≤1000000:=by omega
 have c6:=qb h1
 have g0:=n1.size
 clear h1
 go_wp2_with fail
 go_loopw [4,6,14] (fun kv _ iv wr=>∃i:Nat,iv = .int .i64 (i:Int)∧i≤l.length∧wr.ownsRow w1.heap.size 81 38 kv (qcl (l.take i)).length ((qcl (l.take i)).flatMap ql)∧Hid (ChP wr g S ((l.take i).foldl qbh c) lv nv av)∧Upd (· = g) w1 wr) (fun _ _ iv _=>l.length-(intOf iv).toNat)
 case atStart=>exact⟨0,rfl,Nat.zero_le _,World.ownsRow_nil _ _ _ _,c6,Upd.refl _ _⟩
 case round =>
  obtain⟨i,rfl,hi,m,HC,nr⟩:=hrel
  obtain⟨v,rfl⟩:∃v:World,v=wr:=⟨_,rfl⟩
  obtain⟨ka,a8,d3⟩:=qv m
  subst d3
  by_cases d4:i<l.length
  ·obtain⟨x,z⟩:∃x,l[i]? = some x:=⟨_,List.getElem?_eq_getElem d4⟩
   obtain⟨g',off,rfl,R,hh⟩:=o i x z
   have a6:=(hh.upd nr (fun e=>by omega)).row z
   have f7:(i:Int)<(l.length:Int):=by omega
   have d7:=qm6 v x
   have I:=qmz v x
   have Y:=qzd z
   have U:=qy0 c z
   have f9:(qcl (l.take i)).length≤i:=by
    unfold qcl
    refine Nat.le_trans (List.length_filter_le _ _) ?_
    rw[List.length_take]
    omega
   have HO:=qb m
   have HK:=qb Y
   have HT:=qb U
   clear Y U z hh o m
   go_upto_region 4 with fail
   obtain⟨C,L⟩:=I
   generalize (v.alloc (.cells (ql Live.zero).toArray 81)).setCells v.heap.size 0 (ql x)=wb at C L ⊢
   have c2:wb.cell? ⟨v.heap.size,36,none⟩=some (.int .i64 x.state):=by rw[qg C,List.getElem?_toArray];exact qfk x
   have d6:=nr.size
   have f6:w1.heap.size≤v.heap.size:=d6
   have M:=qb ((qa HC).new L)
   have a9:=nr.then (L.mono (T:=fun _=>False) (fun _ _ h=>h)) (fun _ _ h=>h.elim)
   clear d7 a6
   by_cases K:x.state=9
   ·have f1:wb.cell? ⟨v.heap.size,35,none⟩=some (.bool x.own):=by rw[qg C,List.getElem?_toArray];exact qi3 x
    have f2:wb.cell? ⟨v.heap.size,37,none⟩=some (.bool x.paid):=by rw[qg C,List.getElem?_toArray];exact qlw x
    have d1:wb.cell? ⟨v.heap.size,1,none⟩=some (.int .u64 x.h.amount):=by rw[qg C,List.getElem?_toArray];exact qt5 x
    have V:=fun(W:World) (q:Q wb W)=>qru g S _ lv nv av (x.own != x.paid) x.h.amount W ((qa M).upd (q.upd (fun _=>False)) (fun _ _ h=>h))
    have N:=qb V
    rw[K] at c2
    clear V C
    go_wp2_with fail
    refine(qa N _ (Q.refl _)).mono ?_
    rintro e w2 ⟨rfl,a4,u2⟩
    have H:qbh ((l.take i).foldl qbh c) x=((l.take i).foldl qbh c).give (x.own != x.paid) x.h.amount:=by unfold qbh;rw[if_pos K]
    have b7:=qb a4
    have e6:=a9.trans u2
    have b5:=qb (qq (qq (qa HO) L (fun _ _ h=>h)) u2 (fun k f e=>by
     have R:=(qa HO)
     rcases R.2 with ⟨e,_⟩ | ⟨g2,cap,O,P,e3,_⟩
     ·rw[e] at f;simp[Value.ownBlock] at f
     ·rw[P] at f;simp[Value.ownBlock] at f;omega))
    clear a4 N
    go_wp2_with fail
    go_roundw
    case rel =>
     refine⟨i+1,by go_num,by omega,?_,?_,e6⟩
     ·rw[qa HK,if_pos K,List.append_nil];exact qa b5
     ·rw[qa HT,H];exact b7
    case measure=>simp[intOf];omega
   ·have f4:(x.state==9)=false:=by simpa using K
    have g1:=qaj C 38 (by rw[List.size_toArray,qas])
    have d8:=qas x
    have HB:=qb C
    have b6:=qb (qq (qa HO) L (fun _ _ h=>h))
    have f5:wb.heap.size=wb.heap.size:=rfl
    have e8:=L.size
    clear C
    go_wp2_with (at_builtin;refine wpList_append_own _ rfl (.tmp 31) (.tmp 33) 43 rfl w1.heap.size 81 i9 _ 38 b9 Tryz.underlying43 c9 e5 e0 e1 e4 (by decide) _ _ _ rfl ((qa b6).alloc _) ⟨wb.heap.size,0,none⟩ 1 1 (ql x) rfl (by rw[d8]) ?c1 (qdy x) ?c3 ?c4 ?c5 ?_)
    case c3=>unfold maxLen;omega
    case c4=>have:=Nat.mul_le_mul (show (qcl (l.take i)).length+1≤1000000 by omega) c8;omega
    case c5=>omega
    intro v' w5 t j _
    obtain⟨a5,k5,c5,rfl⟩:=qm4 t
    have hO:=qa HO
    have c7:qx wb (wb.alloc (.cells (ql x).toArray 81)):=(Upd.refl _ _).alloc _
    have n5:Upd (· = g) w1 w5:=(a9.alloc _).grown j (fun k f d0=>by
     rcases hO.2 with ⟨e,_⟩ | ⟨g2,cap,O,P,e3,_⟩
     ·rw[e] at f;simp[Value.ownBlock] at f
     ·rw[P] at f;simp[Value.ownBlock] at f;omega)
    have u5:Upd (fun k=>w1.heap.size≤k) (wb.alloc (.cells (ql x).toArray 81)) w5:=(Upd.refl _ _).grown j (fun k f d0=>by
     rcases hO.2 with ⟨e,_⟩ | ⟨g2,cap,O,P,e3,_⟩
     ·rw[e] at f;simp[Value.ownBlock] at f
     ·rw[P] at f;simp[Value.ownBlock] at f;omega)
    have b8:=qb (((qa M).new c7).upd u5 (fun k f e=>by have:=(qa J).lt k f;omega))
    have H:qbh ((l.take i).foldl qbh c) x=(l.take i).foldl qbh c:=by unfold qbh;rw[if_neg K]
    have b4:=qb t
    clear t j HB
    go_wp2_with fail
    go_roundw
    case rel =>
     refine⟨i+1,by go_num,by omega,?_,?_,n5⟩
     ·rw[qa HK,if_neg K,List.length_append,List.flatMap_append]
      have:[x].flatMap ql=ql x:=by simp
      rw[this]
      exact qa b4
     ·rw[qa HT,H];exact b8
    case measure=>simp[intOf];omega
  ·obtain rfl:i=l.length:=by omega
   rw[List.take_length] at *
   have hP:=qa HC
   have E:v.cell? ⟨g,47,none⟩=some lv:=hP.toR.live
   have f3:v.frozen? ⟨g,47,none⟩=false:=qm hP.at_ 47
   have d2:(qcl l).length≤1000000:=Nat.le_trans (List.length_filter_le _ _) Z
   have D:=hP.newLive w1 nr (Upd.refl _ _) _ (qcl l) (fun y hy=>qa c0 y (List.mem_filter.1 hy).1) d2 m
   have uF:Upd (· = g) v (v.setCell ⟨g,47,none⟩ (.slice ka (qcl l).length a8)):=(Upd.refl _ _).set1 47 _
   have HF:=qb D
   have HU:=qb (nr.trans uF)
   clear D m uF o hP
   go_wp2_with fail
   go_end0
   have hU:=qa HU
   have hF:=qa HF
   have h0:=qa J
   rw[qa b3]
   refine⟨rfl,⟨_,_,_,hF.wider (fun k f=> ?_) (fun k f=> ?_)⟩,(n1.mono (fun _ _ h=>h.elim)).trans (hU.mono (fun k _ e=>by rw[e];exact h0.inG))⟩
   ·rcases f with f | f
    ·exact .inl f
    ·exact .inr ⟨by omega,f.2⟩
   ·rcases f with f | f
    ·exact hF.lt k (.inl f)
    ·exact f.2
end Go.Proofs.YtjpmomdechibmaaGreatDoor
