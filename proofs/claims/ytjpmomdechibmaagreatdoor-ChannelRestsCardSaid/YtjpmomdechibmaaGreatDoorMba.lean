/-
  Lives as flat rows of cells; slices.Clone (all of it stands in XLv now).
-/
import Derived.Test.YtjpmomdechibmaaGreatDoorVw5
import Derived.Test.YtjpmomdechibmaaGreatDoorMaa
import Derived.Test.YtjpmomdechibmaaGreatDoorCh4
import Derived.Test.YtjpmomdechibmaaGreatDoorMag
set_option linter.unusedVariables false
set_option linter.unusedSimpArgs false
namespace Go.Proofs.YtjpmomdechibmaaGreatDoor
end Go.Proofs.YtjpmomdechibmaaGreatDoor
namespace Go.Proofs.YtjpmomdechibmaaGreatDoor
open Go.RowKit Go.Sort
theorem q8n(x:Live)(s:Int):qm {x with state:=s} = (qm x).set 36 (.int .i64 s):=by
 unfold qm
 rw[List.set_append_right _ _ (by rw[qbd];omega),qbd]
 rfl
theorem qfj.setState{w:World}{g off:Nat}{X:List Live}(h:qfj w g off X){n:Nat}{x:Live}(t:X[n]? = some x)(s:Int) :
  qfj (w.setCell ⟨g,off+n*38+36,none⟩ (.int .i64 s)) g off (X.set n {x with state:=s}):=by
 obtain⟨C,T,v,D,m⟩:=h
 refine⟨_,T,zz v _ _,by rw[Array.size_setIfInBounds,List.length_set];exact D,fun i y f j o=> ?_⟩
 have q:=(List.getElem?_eq_some_iff.1 t).1
 have z:off+n*38+38≤C.size:=by have:=Nat.mul_le_mul_right 38 (show n+1≤X.length from q);omega
 rw[Array.getElem?_setIfInBounds]
 rw[List.getElem?_set] at f
 by_cases e:n=i
 ·subst e
  rw[if_pos rfl,if_pos q,Option.some.injEq] at f
  subst f
  rw[q8n,List.getElem?_set]
  by_cases l:36=j
  ·subst l
   rw[if_pos rfl,if_pos (by omega),if_pos rfl,if_pos (by rw[qa0];omega)]
  ·rw[if_neg (by omega),if_neg l]
   exact m n x t j o
 ·rw[if_neg e] at f
  rw[if_neg ?_]
  ·exact m i y f j o
  ·rcases Nat.lt_or_gt_of_ne e with h | h
   ·have:=Nat.mul_le_mul_right 38 (show n+1≤i from h);omega
   ·have:=Nat.mul_le_mul_right 38 (show i+1≤n from h);omega
attribute [local go_sem ↓ high] qc6 qdx
attribute [local go_sem] qhk qjw
def aft(ev:Int)(x:Live):Live:= {x with state:=qv x.state x.own ev}
def qz(ev:Int)(xs:List Live):List Live:=xs.map (aft ev)
set_option maxRecDepth 100000 in
set_option maxHeartbeats 4000000 in
theorem qpu(v:Value)(xs:List Live)(ev:Int)(hl:xs.length≤1048576)(w:World)(hG:Glob w)(hv:qh6 w v xs) :
  Calls Tryz.prog 56 #[v,.int .i64 ev] w fun e w'=>∃u,e = .returned u∧qy w w'∧qj7 w.heap.size w' u (qz ev xs):=by
 have Z:∃a k c,v = .slice a k c:=by
  rcases hv with ⟨_,_,rfl,_⟩ | ⟨g,off,cap,rfl,_⟩
  ·exact⟨_,_,_,rfl⟩
  ·exact⟨_,_,_,rfl⟩
 obtain⟨va,vk,vc,rfl⟩:=Z
 go_enter Tryz.func56,Tryz.ntmps56
 go_wp2_with fail
 refine(qsp _ xs hl w hv).mono ?_
 rintro e w1 ⟨u,rfl,n1,⟨ua,uc,rfl,rfl⟩ | ⟨g,cap,rfl,hg,X⟩⟩
 ·obtain⟨J,rfl⟩:∃J:World,J=w1:=⟨_,rfl⟩
  go_wp2_with fail
  go_loopw [12] (fun N wr=>N = .int .i64 0∧wr=J) (fun _ _=>0)
  case atStart=>exact⟨rfl,rfl⟩
  case round =>
   obtain⟨rfl,rfl⟩:=hrel
   go_wp2
   first | go_ret2 | go_ret
   exact⟨_,rfl,n1,.inl ⟨_,_,rfl,rfl⟩⟩
 ·have a6:=hG.new n1
  obtain⟨J,rfl⟩:∃J:World,J=w1:=⟨_,rfl⟩
  go_wp2_with fail
  go_loopw [12] (fun N wr=>∃n:Nat,N = .int .i64 (n:Int)∧n≤xs.length∧Hid (qfj wr g 0 (qz ev (xs.take n)++xs.drop n))∧qy w wr) (fun N _=>xs.length-(intOf N).toNat)
  case atStart=>exact⟨0,rfl,Nat.zero_le _,qb (by simpa [qz] using X),n1⟩
  case round =>
   obtain⟨n,rfl,hn,V,nr⟩:=hrel
   by_cases F:n<xs.length
   ·obtain⟨x,hx⟩:∃x,xs[n]? = some x:=⟨_,List.getElem?_eq_getElem F⟩
    have z:(qz ev (xs.take n)++xs.drop n)[n]? = some x:=by
     have E:(qz ev (xs.take n)).length=n:=by simp[qz];omega
     rw[List.getElem?_append_right (by omega),E,Nat.sub_self,List.getElem?_drop,Nat.add_zero];exact hx
    have t:=qa V
    have m:=t.row z
    rw[Nat.zero_add] at m
    have f:=t.setState z (qv x.state x.own ev)
    obtain⟨CC,TT,i,I,q⟩:=id t
    have a7:(n:Int)<(xs.length:Int):=by omega
    have M:stOk (wr.alloc (.cells #[.int .u64 0,.int .u64 0,.int .u8 0,.int .u8 0,.int .u8 0,.int .u8 0,.int .u8 0,.int .u8 0,.int .u8 0,.int .u8 0,.int .u8 0,.int .u8 0,.int .u8 0,.int .u8 0,.int .u8 0,.int .u8 0,.int .u8 0,.int .u8 0,.int .u8 0,.int .u8 0,.int .u8 0,.int .u8 0,.int .u8 0,.int .u8 0,.int .u8 0,.int .u8 0,.int .u8 0,.int .u8 0,.int .u8 0,.int .u8 0,.int .u8 0,.int .u8 0,.int .u8 0,.int .u8 0,.int .i64 0,.bool false,.int .i64 0,.bool false] 81)) wr.heap.size 0 38 (qm x).toArray=true:=qff (qi _ _) (by decide) (by rw[List.size_toArray,qa0]) (by rw[List.all_toArray,List.all_eq_true];exact qd9 x)
    have l:=qmk wr #[.int .u64 0,.int .u64 0,.int .u8 0,.int .u8 0,.int .u8 0,.int .u8 0,.int .u8 0,.int .u8 0,.int .u8 0,.int .u8 0,.int .u8 0,.int .u8 0,.int .u8 0,.int .u8 0,.int .u8 0,.int .u8 0,.int .u8 0,.int .u8 0,.int .u8 0,.int .u8 0,.int .u8 0,.int .u8 0,.int .u8 0,.int .u8 0,.int .u8 0,.int .u8 0,.int .u8 0,.int .u8 0,.int .u8 0,.int .u8 0,.int .u8 0,.int .u8 0,.int .u8 0,.int .u8 0,.int .i64 0,.bool false,.int .i64 0,.bool false] 81 (qm x) (by rw[qa0];rfl)
    have P:=qhl x
    have R:=qfa x
    have L:=qa0 x
    have HX:=qb hx
    have D:=qb z
    clear hx z f i I q t X
    generalize qm x=C at m M l P R L
    go_upto_region 5 with fail
    obtain⟨o,O⟩:=l
    generalize (wr.alloc (.cells #[.int .u64 0,.int .u64 0,.int .u8 0,.int .u8 0,.int .u8 0,.int .u8 0,.int .u8 0,.int .u8 0,.int .u8 0,.int .u8 0,.int .u8 0,.int .u8 0,.int .u8 0,.int .u8 0,.int .u8 0,.int .u8 0,.int .u8 0,.int .u8 0,.int .u8 0,.int .u8 0,.int .u8 0,.int .u8 0,.int .u8 0,.int .u8 0,.int .u8 0,.int .u8 0,.int .u8 0,.int .u8 0,.int .u8 0,.int .u8 0,.int .u8 0,.int .u8 0,.int .u8 0,.int .u8 0,.int .i64 0,.bool false,.int .i64 0,.bool false] 81)).setCells wr.heap.size 0 C=U at o O ⊢
    have a4:U.cell? ⟨wr.heap.size,35,none⟩=some (.bool x.own):=by rw[qh o,List.getElem?_toArray];exact P
    have a5:U.cell? ⟨wr.heap.size,36,none⟩=some (.int .i64 x.state):=by rw[qh o,List.getElem?_toArray];exact R
    have W:Glob U:=hG.new (nr.trans O)
    clear M m
    go_wp2_with fail
    refine(qx4 x.state ev x.own U W).mono ?_
    rintro e T ⟨rfl,q2⟩
    have y:qfj T g 0 (qz ev (xs.take n)++xs.drop n):=((qa V).upd O (fun h=>h)).upd (q2.upd (fun _=>False)) (fun h=>h)
    have f:=y.setState (qa D) (qv x.state x.own ev)
    have H:=y.row (qa D)
    obtain⟨CC,TT,i,I,q⟩:=id y
    have a8:T.cell? ⟨g,n*38+36,none⟩=some (.int .i64 x.state):=by
     rw[qh i]
     have:=q n x (qa D) 36 (by decide)
     rw[Nat.zero_add] at this
     rw[this,qfa]
    have a9:T.frozen? ⟨g,n*38+36,none⟩=false:=qq i _
    rw[Nat.zero_add] at f
    have K:=qb f
    have n2:qy w T:=(nr.trans O).then (q2.upd (fun _=>False)) (fun _ _ h=>h.elim)
    clear f H i I q y a4 a5 o O
    go_wp2
    go_roundw
    case rel =>
     refine⟨n+1,by go_num,by omega,qb ?_,n2.setCell (fun h=>by have h1:g<w.heap.size:=h;omega) _⟩
     have:=qa K
     have e:(qz ev (xs.take n)++xs.drop n).set n {x with state:=qv x.state x.own ev} = qz ev (xs.take (n+1))++xs.drop (n+1):=by
      have E:(qz ev (xs.take n)).length=n:=by simp[qz];omega
      rw[List.set_append_right _ _ (by omega),E,Nat.sub_self,List.take_add_one,qa HX]
      have hd:xs.drop n=x::xs.drop (n+1):=by
       rw[List.drop_eq_getElem_cons F]
       congr 1
       have:=qa HX
       rw[List.getElem?_eq_getElem F] at this
       exact Option.some.inj this
      rw[hd]
      simp[qz,aft]
     rwa [e] at this
    case measure=>simp[intOf];omega
   ·obtain rfl:n=xs.length:=by omega
    have hf:qfj wr g 0 (qz ev xs):=by have:=qa V;simpa using this
    have Y:(qz ev xs).length=xs.length:=by simp[qz]
    have HF:=qb hf
    clear hf X
    go_wp2
    first | go_ret2 | go_ret
    exact⟨_,rfl,nr,.inr ⟨g,0,_,by rw[Y];rfl,hg,(qa HF).toL⟩⟩
end Go.Proofs.YtjpmomdechibmaaGreatDoor
namespace Go.Proofs.YtjpmomdechibmaaGreatDoor
open Go.RowKit
attribute [local go_sem ↓ high] qc6 qdx qgg qhg
attribute [local go_sem] qhk qjw qo7 quk zq
def qbp(c:Ch)(x:Live):Ch:=if x.state=9 then c.give (x.own != x.paid) x.h.amount else c
def qa8(xs:List Live):List Live:=xs.filter fun x=> !(x.state==9)
def Ch.goOn(c:Ch)(ev:Int):Ch:= {(qz ev c.xs).foldl qbp c with xs:=qa8 (qz ev c.xs)}
theorem q0m{xs:List Live}{i:Nat}{x:Live}(f:xs[i]? = some x):qa8 (xs.take (i+1))=qa8 (xs.take i)++(if x.state=9 then [] else [x]):=by
 unfold qa8
 rw[List.take_add_one,f,List.filter_append]
 by_cases h:x.state=9<;>simp[h]
theorem q0a{xs:List Live}{i:Nat}{x:Live}(c:Ch)(f:xs[i]? = some x):(xs.take (i+1)).foldl qbp c=qbp ((xs.take i).foldl qbp c) x:=by
 rw[List.take_add_one,f,List.foldl_append]
 rfl
theorem q49{st:Int}(h : -9223372036854775808≤st∧st≤9223372036854775807)(own:Bool)(ev:Int) : -9223372036854775808≤qv st own ev∧qv st own ev≤9223372036854775807:=by
 unfold qv
 split
 ·rename_i f
  have:=f.1
  unfold qnq at this
  simp at this
  omega
 ·exact h
theorem q6o{x:Live}(h:LiveOk x)(ev:Int):LiveOk (aft ev x):=⟨h.h,q49 h.state _ _⟩
theorem ChP.newLive{J q:World}{g:Nat}{S:Nat→Prop}{c:Ch}{K nv H:Value}(h:ChP J g S c K nv H)(w0:World)(u:Upd (· = g) w0 J)(P:qy J q)(o:Value)(w:List Live)(O:∀y∈w,LiveOk y)(C:w.length≤1000000)(i:q.ownsRow w0.heap.size 81 38 o w.length (w.flatMap qm)) :
  ChP (q.setCell ⟨g,47,none⟩ o) g (Fr S w0 (q.setCell ⟨g,47,none⟩ o)) {c with xs:=w} o nv H:=by
 have x:=h.new P
 have F:Upd (· = g) q (q.setCell ⟨g,47,none⟩ o):=(Upd.refl _ _).set1 47 _
 have t:=zz x.at_ 47 o
 rw[qyu c K nv H h.ok.s.seed w] at t
 have D:∀k,o.ownBlock=some k→w0.heap.size≤k:=by
  intro k f
  rcases i.2 with ⟨e,_⟩ | ⟨g',cap,m,e,L,_⟩
  ·rw[e] at f;simp[Value.ownBlock] at f
  ·rw[e] at f;simp[Value.ownBlock] at f;omega
 have E:∀k,o.ownBlock=some k→k<q.heap.size:=fun k f=>by
  obtain⟨m,I⟩:=q8 i k f
  exact zw I
 have l:q.ownsRow 0 81 38 o w.length (w.flatMap qm):=by
  refine⟨i.1,?_⟩
  rcases i.2 with e | ⟨g',cap,m,e,L,r⟩
  ·exact .inl e
  ·exact .inr ⟨g',cap,m,e,Nat.zero_le _,r⟩
 have z:∀ {T:TypeId} {v:Value} {n:Nat} {xs:List Value},T≠92→q.ownsRow 0 T 38 v n xs→∀k,v.ownBlock=some k→k≠g:=by
  intro T v n xs M N k f e
  obtain⟨m,I⟩:=q8 N k f
  exact ze I x.at_ M e
 have R:=F.size
 refine⟨t,⟨h.ok.s,h.ok.signed,h.ok.heard,h.ok.nextOwn,h.ok.nextTheirs,h.ok.loc,h.ok.rem,O,C,h.ok.shelf,h.ok.news,h.ok.last,h.ok.many⟩,?_,?_,?_,.inl h.inG,?_,fun k e=> .inl (h.inN k e),fun k e=> .inl (h.inA k e),h.sep,?_⟩
 ·exact qu l F (fun k f e=>z (by decide) l k f e)
 ·exact qu x.news F (fun k f e=>z (by decide) x.news k f e)
 ·exact qu x.last F (fun k f e=>z (by decide) x.last k f e)
 ·intro k f
  have:=E k f
  exact .inr ⟨D k f,by omega⟩
 ·rintro k (f | f)
  ·have:=x.lt k f
   omega
  ·exact f.2
set_option maxRecDepth 100000 in
set_option maxHeartbeats 2000000 in
theorem qme(g:Nat)(S:Nat→Prop)(c:Ch)(ev:Int)(w:World)(h:ChS w g S c)(hG:Glob w) :
  Calls Tryz.prog 40 #[.pointer (some ⟨g,0,none⟩),.int .i64 ev] w fun e w'=>e = .returned (.tuple #[])∧ChS w' g (Fr S w w') (c.goOn ev)∧Upd S w w':=by
 obtain⟨lv,nv,av,h⟩:=h
 have F:w.cell? ⟨g,47,none⟩=some lv:=h.toR.live
 have H:=qpu lv c.xs ev (by have:=h.ok.few;omega) w hG h.toI.lives
 obtain⟨i9,z9,b9,d0,e6,e1,e4,e5,c9⟩:=qjl
 have K:=qb h
 obtain⟨la,f0,d6⟩:=qx h.live
 rw[d6] at F H
 clear h
 go_enter Tryz.func40,Tryz.ntmps40
 go_wp2_with fail
 refine H.mono ?_
 rintro e w1 ⟨u,rfl,n1,hu⟩
 obtain⟨ua,f1,rfl,t⟩:=hu.row
 have a4:(qz ev c.xs).length≤1000000:=by have:=(qa K).ok.few;simp[qz];omega
 have a8:∀y∈qz ev c.xs,LiveOk y:=by
  intro y hy
  obtain⟨x,hx,rfl⟩:=List.mem_map.1 hy
  exact q6o ((qa K).ok.xs x hx) ev
 have Y:c.goOn ev = {(qz ev c.xs).foldl qbp c with xs:=qa8 (qz ev c.xs)} := rfl
 have b4:=qb Y
 have c2:=qb a8
 clear H hu F a8 Y
 generalize e0:qz ev c.xs=m at *
 clear e0
 have h1:=(qa K).new n1
 have e8:g<w.heap.size:=zw (qa K).at_
 have f9:(m.length:Int)≤1000000:=by omega
 have c7:=qb h1
 have g1:=n1.size
 clear h1
 go_wp2_with fail
 go_loopw [4,6,14] (fun kv _ iv wr=>∃i:Nat,iv = .int .i64 (i:Int)∧i≤m.length∧wr.ownsRow w1.heap.size 81 38 kv (qa8 (m.take i)).length ((qa8 (m.take i)).flatMap qm)∧Hid (ChP wr g S ((m.take i).foldl qbp c) lv nv av)∧Upd (· = g) w1 wr) (fun _ _ iv _=>m.length-(intOf iv).toNat)
 case atStart=>exact⟨0,rfl,Nat.zero_le _,World.ownsRow_nil _ _ _ _,c7,Upd.refl _ _⟩
 case round =>
  obtain⟨i,rfl,hi,o,HC,nr⟩:=hrel
  obtain⟨z,rfl⟩:∃z:World,z=wr:=⟨_,rfl⟩
  obtain⟨ka,a9,d4⟩:=qx o
  subst d4
  by_cases d5:i<m.length
  ·obtain⟨x,C⟩:∃x,m[i]? = some x:=⟨_,List.getElem?_eq_getElem d5⟩
   obtain⟨g',off,rfl,U,hh⟩:=t i x C
   have a7:=(hh.upd nr (fun e=>by omega)).row C
   have f8:(i:Int)<(m.length:Int):=by omega
   have d8:=qnw z x
   have J:=qnn z x
   have Z:=q0m C
   have V:=q0a c C
   have g0:(qa8 (m.take i)).length≤i:=by
    unfold qa8
    refine Nat.le_trans (List.length_filter_le _ _) ?_
    rw[List.length_take]
    omega
   have HO:=qb o
   have HK:=qb Z
   have HT:=qb V
   clear Z V C hh t o
   go_upto_region 4 with fail
   obtain⟨D,M⟩:=J
   generalize (z.alloc (.cells (qm Live.zero).toArray 81)).setCells z.heap.size 0 (qm x)=wb at D M ⊢
   have c6:wb.cell? ⟨z.heap.size,36,none⟩=some (.int .i64 x.state):=by rw[qh D,List.getElem?_toArray];exact qfa x
   have d7:=nr.size
   have f7:w1.heap.size≤z.heap.size:=d7
   have N:=qb ((qa HC).new M)
   have b3:=nr.then (M.mono (T:=fun _=>False) (fun _ _ h=>h)) (fun _ _ h=>h.elim)
   clear d8 a7
   by_cases L:x.state=9
   ·have f2:wb.cell? ⟨z.heap.size,35,none⟩=some (.bool x.own):=by rw[qh D,List.getElem?_toArray];exact qhl x
    have f3:wb.cell? ⟨z.heap.size,37,none⟩=some (.bool x.paid):=by rw[qh D,List.getElem?_toArray];exact qml x
    have d1:wb.cell? ⟨z.heap.size,1,none⟩=some (.int .u64 x.h.amount):=by rw[qh D,List.getElem?_toArray];exact q0t x
    have X:=fun(W:World) (q:Q wb W)=>qsy g S _ lv nv av (x.own != x.paid) x.h.amount W ((qa N).upd (q.upd (fun _=>False)) (fun _ _ h=>h))
    have O:=qb X
    rw[L] at c6
    clear X D
    go_wp2_with fail
    refine(qa O _ (Q.refl _)).mono ?_
    rintro e w2 ⟨rfl,a6,u2⟩
    have I:qbp ((m.take i).foldl qbp c) x=((m.take i).foldl qbp c).give (x.own != x.paid) x.h.amount:=by unfold qbp;rw[if_pos L]
    have b8:=qb a6
    have e7:=b3.trans u2
    have b6:=qb (qu (qu (qa HO) M (fun _ _ h=>h)) u2 (fun k f e=>by
     have U:=(qa HO)
     rcases U.2 with ⟨e,_⟩ | ⟨g2,cap,P,R,e3,_⟩
     ·rw[e] at f;simp[Value.ownBlock] at f
     ·rw[R] at f;simp[Value.ownBlock] at f;omega))
    clear a6 O
    go_wp2_with fail
    go_roundw
    case rel =>
     refine⟨i+1,by go_num,by omega,?_,?_,e7⟩
     ·rw[qa HK,if_pos L,List.append_nil];exact qa b6
     ·rw[qa HT,I];exact b8
    case measure=>simp[intOf];omega
   ·have f5:(x.state==9)=false:=by simpa using L
    have g3:=qaq D 38 (by rw[List.size_toArray,qa0])
    have d9:=qa0 x
    have HB:=qb D
    have b7:=qb (qu (qa HO) M (fun _ _ h=>h))
    have f6:wb.heap.size=wb.heap.size:=rfl
    have e9:=M.size
    clear D
    go_wp2_with (at_builtin;refine wpList_append_own _ rfl (.tmp 31) (.tmp 33) 43 rfl w1.heap.size 81 i9 _ 38 b9 Tryz.underlying43 d0 e6 e1 e4 e5 (by decide) _ _ _ rfl ((qa b7).alloc _) ⟨wb.heap.size,0,none⟩ 1 1 (qm x) rfl (by rw[d9]) ?c1 (qd9 x) ?c3 ?c4 ?c5 ?_)
    case c3=>unfold maxLen;omega
    case c4=>have:=Nat.mul_le_mul (show (qa8 (m.take i)).length+1≤1000000 by omega) c9;omega
    case c5=>omega
    intro v' w5 v l _
    obtain⟨a5,k5,c5,rfl⟩:=qnt v
    have hO:=qa HO
    have c8:qy wb (wb.alloc (.cells (qm x).toArray 81)):=(Upd.refl _ _).alloc _
    have n5:Upd (· = g) w1 w5:=(b3.alloc _).grown l (fun k f d2=>by
     rcases hO.2 with ⟨e,_⟩ | ⟨g2,cap,P,R,e3,_⟩
     ·rw[e] at f;simp[Value.ownBlock] at f
     ·rw[R] at f;simp[Value.ownBlock] at f;omega)
    have u5:Upd (fun k=>w1.heap.size≤k) (wb.alloc (.cells (qm x).toArray 81)) w5:=(Upd.refl _ _).grown l (fun k f d2=>by
     rcases hO.2 with ⟨e,_⟩ | ⟨g2,cap,P,R,e3,_⟩
     ·rw[e] at f;simp[Value.ownBlock] at f
     ·rw[R] at f;simp[Value.ownBlock] at f;omega)
    have c0:=qb (((qa N).new c8).upd u5 (fun k f e=>by have:=(qa K).lt k f;omega))
    have I:qbp ((m.take i).foldl qbp c) x=(m.take i).foldl qbp c:=by unfold qbp;rw[if_neg L]
    have b5:=qb v
    clear v l HB
    go_wp2_with fail
    go_roundw
    case rel =>
     refine⟨i+1,by go_num,by omega,?_,?_,n5⟩
     ·rw[qa HK,if_neg L,List.length_append,List.flatMap_append]
      have:[x].flatMap qm=qm x:=by simp
      rw[this]
      exact qa b5
     ·rw[qa HT,I];exact c0
    case measure=>simp[intOf];omega
  ·obtain rfl:i=m.length:=by omega
   rw[List.take_length] at *
   have hP:=qa HC
   have F:z.cell? ⟨g,47,none⟩=some lv:=hP.toR.live
   have f4:z.frozen? ⟨g,47,none⟩=false:=qq hP.at_ 47
   have d3:(qa8 m).length≤1000000:=Nat.le_trans (List.length_filter_le _ _) a4
   have E:=hP.newLive w1 nr (Upd.refl _ _) _ (qa8 m) (fun y hy=>qa c2 y (List.mem_filter.1 hy).1) d3 o
   have uF:Upd (· = g) z (z.setCell ⟨g,47,none⟩ (.slice ka (qa8 m).length a9)):=(Upd.refl _ _).set1 47 _
   have HF:=qb E
   have HU:=qb (nr.trans uF)
   clear E o uF t hP
   go_wp2_with fail
   go_end0
   have hU:=qa HU
   have hF:=qa HF
   have h0:=qa K
   rw[qa b4]
   refine⟨rfl,⟨_,_,_,hF.wider (fun k f=> ?_) (fun k f=> ?_)⟩,(n1.mono (fun _ _ h=>h.elim)).trans (hU.mono (fun k _ e=>by rw[e];exact h0.inG))⟩
   ·rcases f with f | f
    ·exact .inl f
    ·exact .inr ⟨by omega,f.2⟩
   ·rcases f with f | f
    ·exact hF.lt k (.inl f)
    ·exact f.2
end Go.Proofs.YtjpmomdechibmaaGreatDoor
