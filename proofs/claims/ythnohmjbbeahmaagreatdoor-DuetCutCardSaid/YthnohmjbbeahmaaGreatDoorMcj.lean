/-
  A row of messages that lies anywhere in its block: what is on its way in a duet.
-/
import Derived.Test.YthnohmjbbeahmaaGreatDoorPr3
import Derived.Test.YthnohmjbbeahmaaGreatDoorMce
import Derived.Test.YthnohmjbbeahmaaGreatDoorMbi
import Derived.Test.YthnohmjbbeahmaaGreatDoorMch
set_option linter.unusedVariables false
set_option linter.unusedSimpArgs false
namespace Go.Proofs.YthnohmjbbeahmaaGreatDoor
open Go.RowKit
def qfk(w:World)(B:Nat)(v:Value)(L:List MsgV):Prop :=
 (v = .slice none 0 0∧L=[])∨∃g o cap i,v = .slice (some ⟨g,o,none⟩) L.length cap∧B≤g∧w.heap[g]? = some (.cells i 71 (0,0))∧L.length≤cap∧o+cap*38≤i.size∧∀j u,(L.flatMap MsgV.cells)[j]? = some u→i[o+j]? = some u
section
variable {w w':World}{B:Nat}{v:Value}{L:List MsgV}
theorem qfk.blk(h:qfk w B v L):∀k,v.ownBlock=some k→B≤k∧∃i,w.heap[k]? = some (.cells i 71 (0,0)):=by
 intro k l;rcases h with ⟨rfl,_⟩ | ⟨g,o,cap,i,rfl,m,q,_⟩
 ·simp[Value.ownBlock] at l
 ·simp[Value.ownBlock] at l;exact⟨l▸m,i,l▸q⟩
theorem qfk.upd{S:Nat→Prop}(h:qfk w B v L)(u:Upd S w w')(n:∀k,v.ownBlock=some k→¬S k):qfk w' B v L:=by
 rcases h with h | ⟨g,o,cap,i,rfl,l,m,r⟩
 ·exact .inl h
 ·exact .inr ⟨g,o,cap,i,rfl,l,u.old m (n g rfl),r⟩
theorem qfk.new(h:qfk w B v L)(u:qq w w'):qfk w' B v L:=h.upd u (fun _ _ h=>h)
theorem qfk.nil(w:World)(B:Nat):qfk w B qcg []:= .inl ⟨rfl,rfl⟩
theorem qfk.shape(h:qfk w B v L):∃a cap,v = .slice a L.length cap:=by
 rcases h with ⟨rfl,rfl⟩ | ⟨g,o,cap,i,rfl,_⟩
 ·exact⟨_,_,rfl⟩
 ·exact⟨_,_,rfl⟩
theorem qfk.ofOwn{n:Nat}(h:w.ownsRow B 71 38 v n (L.flatMap MsgV.cells))(y:n=L.length):qfk w B v L:=by
 subst y;rcases h.2 with ⟨e,m⟩ | ⟨g,cap,l,e,o,t,q,C,D,z⟩
 ·exact .inl ⟨e,List.length_eq_zero_iff.1 m⟩
 ·refine .inr ⟨g,0,cap,l,e,o,t,q,by omega,?_⟩;intro j u i;rw[Nat.zero_add,←Array.getElem?_toList];rw[←z] at i;have x:=(List.getElem?_eq_some_iff.1 i).1;rw[List.length_take] at x;rw[List.getElem?_take_of_lt (by omega)] at i;exact i
theorem qfk.src(h:qfk w B v L):(v = .slice none 0 0∧L=[])∨∃i c,v = .slice (some i) L.length c∧∀j u,(L.flatMap MsgV.cells)[j]? = some u→w.cell? (i.add j)=some u:=by
 rcases h with h | ⟨g,o,cap,l,e,y,q,z,C,x⟩
 ·exact .inl h
 ·refine .inr ⟨_,_,e,fun j u t=> ?_⟩;have m:(⟨g,o,none⟩:Addr).add j=⟨g,o+j,none⟩:=by cases j<;>simp[Addr.add]
  rw[m,qh q];exact x j u t
theorem qfk.cons{m:MsgV}{ms:List MsgV}(h:qfk w B v (m::ms))(F:m.hash.length=32):∃g o cap,v = .slice (some ⟨g,o,none⟩) (ms.length+1) cap∧ms.length+1≤cap∧zu w g o 38=some m.cells.toArray ∧
  qfk w B (.slice (if cap=1 then some ⟨g,o,none⟩ else some ⟨g,o+38,none⟩) ms.length (cap-1)) ms:=by
 rcases h with ⟨_,e⟩ | ⟨g,o,cap,i,e,C,t,q,H,D⟩
 ·cases e
 ·have q:ms.length+1≤cap:=q;have y:=m.len F;refine⟨g,o,cap,e,q,?_,?_⟩
  ·rw[qbv t o 38 (by omega)];congr 1;apply Array.ext_getElem?;intro j;rw[Array.getElem?_extract];by_cases l:j<38
   ·rw[if_pos (by omega)];have E:m.cells[j]? = some m.cells[j]:=List.getElem?_eq_getElem (by omega);rw[D j m.cells[j] (by rw[List.flatMap_cons,List.getElem?_append_left (by omega)];exact E),List.getElem?_toArray,E]
   ·rw[if_neg (by omega)];symm;rw[List.getElem?_toArray];exact List.getElem?_eq_none (by omega)
  ·by_cases z:cap=1
   ·rw[if_pos z];have x:ms=[]:=List.length_eq_zero_iff.1 (by omega);subst x;exact .inr ⟨g,o,cap-1,i,rfl,C,t,Nat.zero_le _,by omega,fun j u l=>by simp at l⟩
   ·rw[if_neg z];refine .inr ⟨g,o+38,cap-1,i,rfl,C,t,by omega,by omega,fun j u l=> ?_⟩;rw[show o+38+j=o+(38+j) by omega];refine D _ _ ?_;rw[List.flatMap_cons,List.getElem?_append_right (by omega),y,Nat.add_sub_cancel_left];exact l
end
theorem qyl{w:World}(I:TypeId)(B:Nat)(v:Value)(L:List MsgV)(hq:qfk w B v L)(hL:∀l∈L,MsgOk l)(ls:List MsgV)(a6:∀l∈ls,MsgOk l)(xv:Value)
  (O:(xv = .slice none 0 0∧ls=[])∨∃D c,xv = .slice (some D) ls.length c∧∀j u,(ls.flatMap MsgV.cells)[j]? = some u→w.cell? (D.add j)=some u)
  (C:L.length+ls.length≤1000000) (t:B≤w.heap.size) :
  ∃J w',(Builtin.append_ #[58,58] I #[v,xv]).run Tryz.prog w = .ok J w'∧qfk w' B J (L++ls)∧Upd (fun k=>v.ownBlock=some k) w w'∧(J.ownBlock=v.ownBlock∨J.ownBlock=some w.heap.size):=by
 obtain⟨V,z9,b9,x,U,q,R,T,K⟩:=qok
 have a7:maxLen=9223372036854775807:=rfl
 have E:=qs7 L (fun l h=>(hL l h).len)
 have W:=qs7 ls (fun l h=>(a6 l h).len)
 rcases O with ⟨rfl,rfl⟩ | ⟨D,c,rfl,Z⟩
 ·rw[List.append_nil];rcases hq with ⟨rfl,rfl⟩ | ⟨g,o,cap,z,rfl,Y,F,M,hs,X⟩
  ·exact⟨_,w,run_append_owned_none (P:=Tryz.prog) (w:=w) B 58 I 71 V 38 Tryz.underlying58 x _ 0 [] (World.ownsRow_nil _ _ _ _),.inl ⟨rfl,rfl⟩,Upd.refl _ _,.inl rfl⟩
  ·have H:=run_append_room_src (P:=Tryz.prog) w 58 58 I 71 V Tryz.underlying58 x g o L.length cap (.slice none 0 0) 0 [] (Src.ofNil w Tryz.underlying58 0) (by omega) (fun j h=>by simp at h) (fun j h=>by simp at h);exact⟨_,_,H,.inr ⟨g,o,cap,z,rfl,Y,F,M,hs,X⟩,Upd.refl _ _,.inl rfl⟩
 ·rcases hq with ⟨rfl,rfl⟩ | ⟨g,o,cap,z,rfl,Y,F,M,hs,X⟩
  ·obtain⟨J,w',h1,h2,h3,-,h5⟩:=run_append_own_at (P:=Tryz.prog) w B 58 I 71 V _ 38 b9 Tryz.underlying58 x U q R T (by decide) (.slice none 0 0) 0 [] (World.ownsRow_nil _ _ _ _) D ls.length c (ls.flatMap MsgV.cells) W Z (q0u ls) (by rw[a7];omega) (by have:=Nat.mul_le_mul C K;simp at this ⊢;omega) t;exact⟨J,w',h1,qfk.ofOwn h2 (by simp),(Upd.refl _ _).grown h3 (fun k hk _=>hk),h5⟩
  ·by_cases y:L.length+ls.length≤cap
   ·have a5:∀j,j<(ls.flatMap MsgV.cells).length→o+L.length*38+j<z.size:=fun j m=>by omega
    have H:=run_append_room_src (P:=Tryz.prog) w 58 58 I 71 V Tryz.underlying58 x g o L.length cap (.slice (some D) ls.length c) ls.length (ls.flatMap MsgV.cells) (Src.ofSlice w Tryz.underlying58 D ls.length c _ (by rw[q];exact W) Z (q0u ls)) y
     (fun j m=>by rw[q,qh F,Array.getElem?_eq_getElem (a5 j m)];rfl) (fun j m=>qw F _)
    rw[q] at H;refine⟨_,_,H,.inr ⟨g,o,cap,qkx z (o+L.length*38) (ls.flatMap MsgV.cells),by rw[List.length_append],Y,qa4 F _ _,by rw[List.length_append];exact y,by rw[qnk];exact hs,fun j u m=> ?_⟩,?_,.inl rfl⟩
    ·rw[qhm _ _ _ _ (by omega)];rw[List.flatMap_append] at m;by_cases a8:j<L.length*38
     ·rw[if_neg (by omega)];rw[List.getElem?_append_left (by omega)] at m;exact X j u m
     ·rw[List.getElem?_append_right (by omega),E] at m;have N:=(List.getElem?_eq_some_iff.1 m).1;rw[if_pos (by omega),show o+j-(o+L.length*38)=j-L.length*38 by omega];exact m
    ·exact((Upd.refl (fun k=>k=g) w).setCells _ _).mono (fun i _ e=>by simp[Value.ownBlock,e])
   ·have H:=run_append_grow (P:=Tryz.prog) w 58 I 71 V z9 Tryz.underlying58 x U ⟨g,o,none⟩ L.length cap (L.flatMap MsgV.cells) (by rw[q];exact E)
     (fun j u m=>by
      have e2:(⟨g,o,none⟩:Addr).add j=⟨g,o+j,none⟩:=by cases j<;>simp[Addr.add]
      rw[e2,qh F];exact X j u m)
     D ls.length c (ls.flatMap MsgV.cells) (by rw[q];exact W) Z (by omega) (by omega) (growslice_fits (by omega) (by rw[R];have:=Nat.mul_le_mul C K;omega))
    have a4:=grownCap_ge w (L.length+ls.length) cap 71;refine⟨_,_,H,.inr ⟨w.heap.size,0,_,_,by rw[List.length_append],t,heap_alloc_new w.drew _,by rw[List.length_append];exact a4,?_,fun j u m=> ?_⟩,?_,.inr rfl⟩
    ·simp only[Array.size_append,List.size_toArray,size_zeroCells,T,E,W,←Nat.add_mul];rw[Nat.zero_add];refine Nat.mul_le_mul_right _ ?_;omega
    ·rw[List.flatMap_append] at m;have N:=(List.getElem?_eq_some_iff.1 m).1;rw[Nat.zero_add,Array.getElem?_append_left (by simpa using N)];rw[←m,←Array.getElem?_toList];simp
    ·exact((Upd.refl _ _).drew).alloc _
theorem zag{w:World}{t:Array Oper}{rest:List Oper}{o:Oper}{a:Act}{Q:Exit→Act→World→Prop}(z:o.guard=none)(s x:Operand)
  (M:o.op = .call {callee:= .builtin .append,args:=#[s,x],argTypes:=#[58,58]})
  (B:Nat) (v:Value) (P:a.eval s=v) (L:List MsgV) (N:qfk w B v L) (J:∀l∈L,MsgOk l) (ls:List MsgV) (C:∀l∈ls,MsgOk l) (y:Value) (R:a.eval x=y)
  (q:(y = .slice none 0 0∧ls=[])∨∃D c,y = .slice (some D) ls.length c∧∀j u,(ls.flatMap MsgV.cells)[j]? = some u→w.cell? (D.add j)=some u)
  (m:L.length+ls.length≤1000000) (g:B≤w.heap.size)
  (h:∀i w',qfk w' B i (L++ls)→Upd (fun k=>v.ownBlock=some k) w w'→(i.ownBlock=v.ownBlock∨i.ownBlock=some w.heap.size)→wpList Tryz.prog t Q rest (a.put o.dst i) w') :
  wpList Tryz.prog t Q (o::rest) a w:=by
 refine wpList_plain z fun K I=> ?_
 obtain⟨i,w',O,E,F,H⟩:=qyl o.type B v L N J ls C y q m g
 unfold Oper.wp execOp
 simp only[M,resolve,invoke,builtin,Sem.run_bind,Sem.run_pure,Result.andThen_ok,List.map_toArray,List.map_cons,List.map_nil,P,R,O]
 exact I _ _ (h i w' E F H)
section
variable {w0 w w':World}{p K:Nat}{S T:Nat→Prop}{a b a' b':Ch}{wa wb wa' wb':List MsgV}{bad bad':Bool}{m m':MsgV}
end
attribute [local go_sem ↓ high] zy zz z7 qaa
attribute [local go_sem] qb2 qcb qci qbi qza zb
def qe1(id r:Int):MsgV:=⟨5,0,id,0,qaj,0,r⟩
def Ch.fail(c:Ch)(id r:Int):Ch × MsgV × Int:=match qb0 false id c.xs with
 | none=>(c,MsgV.zero,3)
 | some p=>if r<0∨65535<r then (c,MsgV.zero,1) else ((c.removed p.1 p.2 false).say (qe1 id r),(qe1 id r).on c.s.ch,0)
theorem qu2{c:Ch}{id r:Int}(h:qb0 false id c.xs=none):c.fail id r=(c,MsgV.zero,3):=by unfold Ch.fail;rw[h]
theorem qzy{c:Ch}{id r:Int}{p:Nat × Live}(h:qb0 false id c.xs=some p)(g:r<0∨65535<r):c.fail id r=(c,MsgV.zero,1):=by unfold Ch.fail;rw[h];simp only;rw[if_pos g]
theorem q7m{c:Ch}{id r:Int}{i:Nat}{x:Live}(h:qb0 false id c.xs=some (i,x))(g:¬(r<0∨65535<r)):c.fail id r=((c.removed i x false).say (qe1 id r),(qe1 id r).on c.s.ch,0):=by unfold Ch.fail;rw[h];simp only;rw[if_neg g]
set_option maxRecDepth 100000 in
set_option maxHeartbeats 1000000 in
theorem za8(g:Nat)(S:Nat→Prop)(c:Ch)(id r:Int)(w:World)(h:ChS w g S c)(V:c.news.length<1000000) :
  Calls Tryz.prog 33 #[.pointer (some ⟨g,0,none⟩),.int .u64 id,.int .i64 r] w fun e w' =>
   e = .returned (.tuple #[.agg (c.fail id r).2.1.cells.toArray,.int .i64 (c.fail id r).2.2])∧ChS w' g (Fr S w w') (c.fail id r).1∧Upd S w w':=by
 obtain⟨lv,nv,Z,h⟩:=h
 go_enter Tryz.func33,Tryz.ntmps33
 go_upto_region 1 with fail
 have O:=qbz w MsgV.zero qu
 have Y:qq w (w.alloc (.cells MsgV.zero.cells.toArray 71)):=(Upd.refl _ _).alloc _
 generalize w.alloc (.cells MsgV.zero.cells.toArray 71)=w1 at O Y ⊢
 obtain⟨B,P⟩:∃B,B=w.heap.size:=⟨_,rfl⟩
 rw[←P] at O ⊢
 have a7:w.heap.size≤B:=by omega
 have a8:g≠B:=by have:=h.lt g h.inG;omega
 have o:¬S B:=fun e=>by have:=h.lt B e;omega
 clear P
 have h1:=h.new Y
 have U:=qn1 g S c false id w1 ⟨lv,nv,Z,h1⟩
 have bad:∀(W:World),qq w1 W →
   stOk W B 0 38 MsgV.zero.cells.toArray=true∧MsB (W.setCells B 0 MsgV.zero.cells) B MsgV.zero∧ChS (W.setCells B 0 MsgV.zero.cells) g (Fr S w (W.setCells B 0 MsgV.zero.cells)) c∧Upd S w (W.setCells B 0 MsgV.zero.cells):=by
  intro W nW
  have U:=O.new nW
  have u:=qac (w:=W) (b:=B) MsgV.zero.cells
  exact⟨U.stOk qu,U.put qu,ChS.frW (w1:=w) ⟨lv,nv,Z,((h1.new nW).upd u (fun k E e=>by rw[e] at E;exact o E))⟩,((Y.trans nW).mono (T:=S) (fun _ _ h=>h.elim)).then u (fun i v e=>by omega)⟩
 have q:=qb bad
 have HB:=qb O
 have HI:=qb h.inL
 have H1:=qb h1
 have a6:=qb h.lt
 have N1:=qb Y
 clear h h1 O Y bad
 go_wp2_with fail
 refine U.mono ?_
 rintro e w2 ⟨rfl,H⟩
 clear U
 cases z:qb0 false id c.xs with
 | none =>
  have v:=qj3 z;obtain⟨F,l,t,R⟩:=qa q w2 H;have J:=qb (qu2 (r:=r) z);have K:=qb l;have I:=qb t;have L:=qb R;rw[v];clear l t R H z v;go_wp2_with (with_reducible first|(first|refine' zi (qg ?_) ?_|refine' zj (qg ?_) ?_);rotate_left|refine' zk (qg ?_)|rfl|apply tn|refine' zl ?_);have l:=qa K;refine bodyPost_ret (qs rfl _ _ B _ _ _ _ rfl l.at_ Tryz.underlying71 rfl (by rw[l.agg];exact Tryz.infoMsg)) rfl ?_;rw[qa J];exact⟨rfl,qa I,qa L⟩
 | some pr =>
  obtain⟨i,x⟩:=pr;obtain⟨v,D,-⟩:=qhu z;have h2:=(qa H1).new H;rw[v];by_cases M:r<0∨65535<r
  ·obtain⟨F,l,t,R⟩:=qa q w2 H;have J:=qb (qzy z M);have K:=qb l;have I:=qb t;have L:=qb R;clear l t R H z v D h2;rcases M with M | M
   ·go_wp2_with (with_reducible first|(first|refine' zi (qg ?_) ?_|refine' zj (qg ?_) ?_);rotate_left|refine' zk (qg ?_)|rfl|apply tn|refine' zl ?_);have l:=qa K;refine bodyPost_ret (qs rfl _ _ B _ _ _ _ rfl l.at_ Tryz.underlying71 rfl (by rw[l.agg];exact Tryz.infoMsg)) rfl ?_;rw[qa J];exact⟨rfl,qa I,qa L⟩
   ·have a4:¬r<0:=by omega
    go_wp2_with (with_reducible first|(first|refine' zi (qg ?_) ?_|refine' zj (qg ?_) ?_);rotate_left|refine' zk (qg ?_)|rfl|apply tn|refine' zl ?_);have l:=qa K;refine bodyPost_ret (qs rfl _ _ B _ _ _ _ rfl l.at_ Tryz.underlying71 rfl (by rw[l.agg];exact Tryz.infoMsg)) rfl ?_;rw[qa J];exact⟨rfl,qa I,qa L⟩
  ·have X:=qkl g S c lv nv Z i x false w2 h2 D;have J:=qb (q7m z M);have a4:¬r<0:=by omega
   have a9:¬65535<r:=by omega
   have N2:=qb H;clear H z v D h2 M;go_wp2_with fail;refine X.mono ?_;rintro e w3 ⟨rfl,h3,u3⟩;have y:=fun W (hW:ChS W g S (c.removed i x false))=>qrf g S (c.removed i x false) (qe1 id r) qu W hW V
   have m:=y w3 ⟨lv,nv,Z,h3⟩;have U3:=qb ((((qa N1).trans (qa N2)).mono (T:=S) (fun _ _ h=>h.elim)).trans (u3.mono (T:=S) (fun k _ e=>qa HI k e)));have N:=qb (((qa HB).new (qa N2)).upd u3 (fun e=>o (qa HI B e)));clear X h3 u3 y;unfold qe1 at m;go_wp2_with (with_reducible first|(first|refine' zi (qg ?_) ?_|refine' zj (qg ?_) ?_);rotate_left|refine' zk (qg ?_)|rfl|apply tn|refine' zl ?_);refine m.mono ?_;rintro e w4 ⟨rfl,h4,u4⟩;have hl:((qe1 id r).on (c.removed i x false).s.ch).hash.length=32:=qu;have C:=(qa N).upd u4 o;have F:=C.stOk hl;have l:=C.put hl;have u5:=qac (w:=w4) (b:=B) ((qe1 id r).on (c.removed i x false).s.ch).cells;have K:=qb l;have a5:=(qa U3).size;have t:=h4.upd u5 (fun k E e=>by
    rcases E with E | E
    ·exact o (e▸E)
    ·have:=(qa N).lt;omega)
   have I:=qb ((t.grow u5.size).later a5);have L:=qb (((qa U3).trans u4).then u5 (fun i v e=>by omega));change stOk w4 B 0 38 ((⟨5,0,id,0,qaj,0,r⟩:MsgV).on (c.removed i x false).s.ch).cells.toArray=true at F;clear m h4 u4 C l u5 t hl;go_wp2_with (with_reducible first|(first|refine' zi (qg ?_) ?_|refine' zj (qg ?_) ?_);rotate_left|refine' zk (qg ?_)|rfl|apply tn|refine' zl ?_);have l:=qa K;refine bodyPost_ret (qs rfl _ _ B _ _ _ _ rfl l.at_ Tryz.underlying71 rfl (by rw[l.agg];exact Tryz.infoMsg)) rfl ?_;rw[qa J];exact⟨rfl,qa I,qa L⟩
end Go.Proofs.YthnohmjbbeahmaaGreatDoor
namespace Go.Proofs.YthnohmjbbeahmaaGreatDoor
open Go.RowKit
theorem qpm{w:World}{b o n:Nat}{A:Array Value}(h:zu w b o n=some A)(i k:Nat)(l:i+k≤n):zu w b (o+i) k=some (A.extract i (i+k)):=by
 unfold zu at h ⊢;cases g:w.heap[b]? with
 | none=>rw[g] at h;cases h
 | some m =>
  rw[g] at h;cases m with
  | cells C T q =>
   simp only at h ⊢;split at h
   ·injection h with h;subst h;rw[if_pos (by omega),Array.extract_extract];congr 2;omega
   ·cases h
  | _=>simp at h
theorem q8p(x:Live):(qk x).toArray.extract 2 (2+32)=(qy x.h.hash.toList).toArray:=by
 apply Array.ext';rw[Array.toList_extract];unfold qk qz qy;simp
theorem ChP.hash{w:World}{g:Nat}{S:Nat→Prop}{c:Ch}{t nv v:Value}(h:ChP w g S c t nv v){i:Nat}{x:Live}(q:c.xs[i]? = some x):∃o cap,t = .slice (some ⟨o,0,none⟩) c.xs.length cap∧zu w o (i*38+2) 32=some (qy x.h.hash.toList).toArray:=by
 have m:=(List.getElem?_eq_some_iff.1 q).1;rcases (qdo h.live).2 with ⟨e,y⟩ | ⟨g',l,e,-,z⟩
 ·rw[y] at m;simp at m
 ·refine⟨g',l,e,?_⟩;have:=qpm (z.row q) 2 32 (by omega);rw[q8p,Nat.zero_add] at this;exact this
def Ch.hearFulfill(c:Ch)(m:MsgV):Ch × Int:=match qb0 true m.id c.xs with
 | none=>(c,3)
 | some p=>if qfm m.hash p.2.h.hash.toList=true then (c.removed p.1 p.2 true,0) else (c,132)
theorem qkd{c:Ch}{m:MsgV}(h:qb0 true m.id c.xs=none):c.hearFulfill m=(c,3):=by unfold Ch.hearFulfill;rw[h]
theorem qhb{c:Ch}{m:MsgV}{i:Nat}{x:Live}(h:qb0 true m.id c.xs=some (i,x)):c.hearFulfill m=if qfm m.hash x.h.hash.toList=true then (c.removed i x true,0) else (c,132):=by unfold Ch.hearFulfill;rw[h]
attribute [local go_sem ↓ high] zy zz z7 qaa qab qan qar
attribute [local go_sem] qb2 qcb qci qbi qcr qde qdn zb
set_option maxRecDepth 100000 in
set_option maxHeartbeats 1000000 in
theorem qqy(g:Nat)(S:Nat→Prop)(c:Ch)(m:MsgV)(hm:MsgOk m)(w:World)(h:ChS w g S c)(hT:Tb w) :
  Calls Tryz.prog 82 #[.pointer (some ⟨g,0,none⟩),.agg m.cells.toArray] w fun e w' =>
   e = .returned (.tuple #[qcg,.int .i64 (c.hearFulfill m).2])∧ChS w' g (Fr S w w') (c.hearFulfill m).1∧Upd S w w':=by
 obtain⟨R,nv,av,h⟩:=h
 go_enter Tryz.func82,Tryz.ntmps82
 go_upto_region 1 with fail
 have J:=qbz w m hm.len
 have M:qq w (w.alloc (.cells m.cells.toArray 71)):=(Upd.refl _ _).alloc _
 generalize w.alloc (.cells m.cells.toArray 71)=w1 at M J ⊢
 generalize w.heap.size=A at J ⊢
 have h1:=h.new M
 obtain⟨-,-,m2,-,-,-,-⟩:=J.cells
 have hb:=qn1 g S c true m.id w1 ⟨R,nv,av,h1⟩
 have HA:=qb J
 have K:=hT.new M
 clear J hT
 go_wp2_with fail
 refine hb.mono ?_
 rintro e X ⟨rfl,N⟩
 have C:=h1.new N
 have y:=(qa HA).new N
 have v:=M.trans N
 have z:=K.new N
 clear hb m2 h1 N M K HA
 cases E:qb0 true m.id c.xs with
 | none =>
  have L:=qj3 E;have F:=qb (qkd E);have Y:=qb (C.fr w);have HU:=qb (v.mono (T:=S) (fun _ _ h=>h.elim));rw[L];clear h C v E L y z;go_wp2_with fail;go_ret2;rw[qa F];exact⟨rfl,qa Y,qa HU⟩
 | some p =>
  obtain⟨i,x⟩:=p;obtain⟨L,o,-⟩:=qhu E;have D:=qhb E;have b4:=(List.getElem?_eq_some_iff.1 o).1;have a8:=h.ok.few;obtain⟨gl,cap,a6,V⟩:=C.hash o;have I:X.cell? ⟨g,47,none⟩=some R:=C.toR.live;rw[a6] at I;obtain⟨-,-,-,-,-,-,U⟩:=y.cells;have a7:=(h.ok.xs x (List.mem_of_getElem? o)).h.hash;have l:=fun W (nW:qq X W)=>qvt m.hash x.h.hash.toList hm.len (by simp) a7 W (z.new nW).tabs
  have q:=fun W (hW:ChP W g S c R nv av)=>qkl g S c R nv av i x true W hW o
  have HI:=qb h.inL;have HU:=qb (v.mono (T:=S) (fun _ _ h=>h.elim));have Y:=qb C;have b3:(i:Int)<(c.xs.length:Int):=by omega
  have F:=qb D;have a9:(c.xs.length:Int)≤1000000:=by omega
  rw[L];clear h C v E L y z o D;generalize hO:qfm m.hash x.h.hash.toList=O at l F;have RA:=qb U;have RH:=qb V;have Z:=qb l;have a4:=qb q;clear U V l q hO;go_upto_region 4 with (with_reducible first|(first|refine' zi (qg ?_) ?_|refine' zj (qg ?_) ?_);rotate_left|refine' zk (qg ?_)|rfl|apply tn|refine' zl ?_);have U:=qa RA;have V:=qa RH;clear RA RH;go_wp2_with (with_reducible first|(first|refine' zi (qg ?_) ?_|refine' zj (qg ?_) ?_);rotate_left|refine' zk (qg ?_)|rfl|apply tn|refine' zl ?_);have l:=qa Z;have q:=qa a4;refine(l _ ((Upd.refl _ _).drew)).mono ?_;rintro e w3 ⟨rfl,n3⟩;have h3:=((qa Y).new ((Upd.refl (fun _=>False) X).drew)).new n3;have P:qq X w3:=n3.ofDrew;have t:=q w3 h3;have H3:=qb (h3.fr w);have H:=qb ((qa HU).trans (P.mono (T:=S) (fun _ _ h=>h.elim)));clear l q I U V h3 n3 P;cases O with
  | false =>
   clear t;go_wp2_with (with_reducible first|(first|refine' zi (qg ?_) ?_|refine' zj (qg ?_) ?_);rotate_left|refine' zk (qg ?_)|rfl|apply tn|refine' zl ?_);go_ret2;have D:c.hearFulfill m=(c,132):=by rw[qa F];simp
   rw[D];exact⟨rfl,qa H3,qa H⟩
  | true =>
   go_wp2_with (with_reducible first|(first|refine' zi (qg ?_) ?_|refine' zj (qg ?_) ?_);rotate_left|refine' zk (qg ?_)|rfl|apply tn|refine' zl ?_);refine t.mono ?_;rintro e w4 ⟨rfl,h4,u4⟩;have H4:=qb (h4.fr w);have a5:=qb ((qa H).trans (u4.mono (T:=S) (fun k _ e=>qa HI k e)));clear t h4 u4;go_wp2_with (with_reducible first|(first|refine' zi (qg ?_) ?_|refine' zj (qg ?_) ?_);rotate_left|refine' zk (qg ?_)|rfl|apply tn|refine' zl ?_);go_ret2;have D:c.hearFulfill m=(c.removed i x true,0):=by rw[qa F];simp
   rw[D];exact⟨rfl,qa H4,qa a5⟩
theorem qxn(g:Nat)(S:Nat→Prop)(c:Ch)(m:MsgV)(l:MsgOk m)(w:World)(h:ChS w g S c)(hok:qam m=true)(i:m.ch=c.s.ch)(y:m.kind=4)(t:Tb w) :
  Calls Tryz.prog 41 #[.pointer (some ⟨g,0,none⟩),.agg m.cells.toArray] w (qhp g S w (c.hearFulfill m).1 [] (c.hearFulfill m).2) :=
 qke _ g S c _ _ _ m l w h hok i (enters_of Tryz.func82 (by kernel_rfl) rfl) (fun q=>by rw[y];exact zit q) (fun W o=>(qqy g S c m l W (h.new o) (t.new o)).mono (by
  rintro e w' ⟨x,v,z⟩;exact⟨_,x,qc5.nil _ _,v,z⟩))
end Go.Proofs.YthnohmjbbeahmaaGreatDoor
namespace Go.Proofs.YthnohmjbbeahmaaGreatDoor
open Go.RowKit
structure Ch.Inv(c:Ch):Prop where
 shelf:q2f c
 peer:c.s.peer.size≤100000000
 ch:0≤c.s.ch∧c.s.ch<4294967296
 heard:c.k.heard<4294967295
 few:c.xs.length≤16
noncomputable def Ch.hear(c:Ch)(m:MsgV):Ch × List MsgV × Int :=
 if qam m=false∨m.ch≠c.s.ch then (c,[],1)
 else if m.kind=3 then ((c.hearAdd m).1,[],(c.hearAdd m).2)
 else if m.kind=4 then ((c.hearFulfill m).1,[],(c.hearFulfill m).2)
 else if m.kind=5 then ((c.hearFail m).1,[],(c.hearFail m).2)
 else if m.kind=6 then c.hearSign m
 else if m.kind=7 then ((c.hearRevoke m).1,[],(c.hearRevoke m).2)
 else (c.hearShut.1,[],c.hearShut.2)
theorem zbv(g:Nat)(S:Nat→Prop)(c:Ch)(m:MsgV)(o:MsgOk m)(w:World)(h:ChS w g S c)(q:c.Inv)(v:Tb w)(x:Apart S)(i:m.kind=3∨m.kind=4∨m.kind=5∨m.kind=6∨m.kind=7∨m.kind=8) :
  Calls Tryz.prog 41 #[.pointer (some ⟨g,0,none⟩),.agg m.cells.toArray] w (qhp g S w (c.hear m).1 (c.hear m).2.1 (c.hear m).2.2):=by
 by_cases t:qam m=false∨m.ch≠c.s.ch
 ·have e:c.hear m=(c,[],1):=by unfold Ch.hear;rw[if_pos t]
  rw[e];refine(q0a g S c m o w h t).mono ?_;rintro e w' ⟨z,y⟩;exact⟨_,z,qc5.nil _ _,(h.new y).frW,y.mono (fun _ _ h=>h.elim)⟩
 ·have hok:qam m=true:=by
   cases C:qam m with
   | true=>rfl
   | false=>exact absurd (.inl C) t
  have l:m.ch=c.s.ch:=Decidable.of_not_not (fun e=>t (.inr e));have e:c.hear m=if m.kind=3 then ((c.hearAdd m).1,[],(c.hearAdd m).2) else if m.kind=4 then ((c.hearFulfill m).1,[],(c.hearFulfill m).2) else if m.kind=5 then ((c.hearFail m).1,[],(c.hearFail m).2) else if m.kind=6 then c.hearSign m else if m.kind=7 then ((c.hearRevoke m).1,[],(c.hearRevoke m).2) else (c.hearShut.1,[],c.hearShut.2):=by unfold Ch.hear;rw[if_neg t]
  rcases i with i | i | i | i | i | i
  ·rw[e,if_pos i];exact zbu g S c m o w h hok l i (by have:=q.few;omega)
  ·rw[e,if_neg (by omega),if_pos i];exact qxn g S c m o w h hok l i v
  ·rw[e,if_neg (by omega),if_neg (by omega),if_pos i];exact q74 g S c m o w h hok l i
  ·rw[e,if_neg (by omega),if_neg (by omega),if_neg (by omega),if_pos i];exact q78 g S c m o w h hok l i v x q.peer q.ch q.heard q.few
  ·rw[e,if_neg (by omega),if_neg (by omega),if_neg (by omega),if_neg (by omega),if_pos i];exact q0b g S c m o w h hok l i q.shelf v x
  ·rw[e,if_neg (by omega),if_neg (by omega),if_neg (by omega),if_neg (by omega),if_neg (by omega)];exact q77 g S c m o w h hok l i
structure Pr where
 a:Ch
 b:Ch
 wa:List MsgV
 wb:List MsgV
 bad:Bool
noncomputable def Pr.hears0(P:Pr):Pr × Bool:=match P.wa with
 | []=>(P,false)
 | m::ms=>(⟨(P.a.hear m).1,P.b,ms,P.wb++(P.a.hear m).2.1,P.bad || decide ((P.a.hear m).2.2≠0)⟩,true)
noncomputable def Pr.hears1(P:Pr):Pr × Bool:=match P.wb with
 | []=>(P,false)
 | m::ms=>(⟨P.a,(P.b.hear m).1,P.wa++(P.b.hear m).2.1,ms,P.bad || decide ((P.b.hear m).2.2≠0)⟩,true)
structure HearOk(c:Ch)(m:MsgV)(other:List MsgV):Prop where
 inv:c.Inv
 kind:m.kind=3∨m.kind=4∨m.kind=5∨m.kind=6∨m.kind=7∨m.kind=8
 says:∀l∈(c.hear m).2.1,MsgOk l
 few:other.length+(c.hear m).2.1.length≤1000000
def Pr.Ok0(P:Pr):Prop:=match P.wa with | []=>True | m::ms=>MsgOk m∧HearOk P.a m P.wb∧ms.length<1000000
def Pr.Ok1(P:Pr):Prop:=match P.wb with | []=>True | m::ms=>MsgOk m∧HearOk P.b m P.wa∧ms.length<1000000
structure SignOk(c:Ch):Prop where
 key:c.s.key.size≤100000000
 ch:0≤c.s.ch∧c.s.ch<4294967296
 few:c.news.length<1000000
 xs:c.xs.length≤16
attribute [local go_sem ↓ high] zy zz z7 qaa qab qan qar
attribute [local go_sem] qb2 qcb qci qbi qrr qcr qde qdn zb
def qgc(id:Int)(p:List Int):MsgV:=⟨4,0,id,0,p,0,0⟩
def Ch.fulfill(c:Ch)(id:Int)(p:List Int):Ch × MsgV × Int:=match qb0 false id c.xs with
 | none=>(c,MsgV.zero,3)
 | some q=>if qfm p q.2.h.hash.toList=true then ((c.removed q.1 q.2 true).say (qgc id p),(qgc id p).on c.s.ch,0) else (c,MsgV.zero,132)
theorem qz4{c:Ch}{id:Int}{p:List Int}(h:qb0 false id c.xs=none):c.fulfill id p=(c,MsgV.zero,3):=by unfold Ch.fulfill;rw[h]
theorem qr7{c:Ch}{id:Int}{p:List Int}{i:Nat}{x:Live}(h:qb0 false id c.xs=some (i,x)):c.fulfill id p=if qfm p x.h.hash.toList=true then ((c.removed i x true).say (qgc id p),(qgc id p).on c.s.ch,0) else (c,MsgV.zero,132):=by unfold Ch.fulfill;rw[h]
set_option maxRecDepth 100000 in
set_option maxHeartbeats 1000000 in
theorem qz5(g:Nat)(S:Nat→Prop)(c:Ch)(id:Int)(pre:List Int)(q:pre.length=32)(w:World)(h:ChS w g S c)(hT:Tb w)(a7:c.news.length<1000000) :
  Calls Tryz.prog 35 #[.pointer (some ⟨g,0,none⟩),.int .u64 id,.agg (qy pre).toArray] w fun e w' =>
   e = .returned (.tuple #[.agg (c.fulfill id pre).2.1.cells.toArray,.int .i64 (c.fulfill id pre).2.2])∧ChS w' g (Fr S w w') (c.fulfill id pre).1∧Upd S w w':=by
 obtain⟨N,nv,av,h⟩:=h
 go_enter Tryz.func35,Tryz.ntmps35
 go_upto_region 1 with fail
 have hD:=(qck w pre q).new ((Upd.refl _ _).alloc (.cells MsgV.zero.cells.toArray 71))
 have L:=qbz (w.alloc (.cells (qy pre).toArray 33)) MsgV.zero qu
 rw[World.size_alloc] at L
 have O:qq w ((w.alloc (.cells (qy pre).toArray 33)).alloc (.cells MsgV.zero.cells.toArray 71)):=((Upd.refl _ _).alloc _).alloc _
 generalize (w.alloc (.cells (qy pre).toArray 33)).alloc (.cells MsgV.zero.cells.toArray 71)=w1 at hD L O ⊢
 obtain⟨D,a6⟩:∃D,D=w.heap.size:=⟨_,rfl⟩
 obtain⟨B,a5⟩:∃B,B=w.heap.size+1:=⟨_,rfl⟩
 rw[←a5] at L ⊢
 rw[←a6] at hD ⊢
 have b9:w.heap.size≤B:=by omega
 have c0:w.heap.size≤D:=by omega
 have c2:g≠B:=by have:=h.lt g h.inG;omega
 have v:¬S B:=fun e=>by have:=h.lt B e;omega
 have b5:¬S D:=fun e=>by have:=h.lt D e;omega
 clear a5 a6
 have h1:=h.new O
 have F:=hT.new O
 have hb:=qn1 g S c false id w1 ⟨N,nv,av,h1⟩
 have bad:∀(W:World),qq w1 W →
   stOk W B 0 38 MsgV.zero.cells.toArray=true∧MsB (W.setCells B 0 MsgV.zero.cells) B MsgV.zero∧ChS (W.setCells B 0 MsgV.zero.cells) g (Fr S w (W.setCells B 0 MsgV.zero.cells)) c∧Upd S w (W.setCells B 0 MsgV.zero.cells):=by
  intro W nW
  have hb:=L.new nW
  have u:=qac (w:=W) (b:=B) MsgV.zero.cells
  exact⟨hb.stOk qu,hb.put qu,ChS.frW (w1:=w) ⟨N,nv,av,((h1.new nW).upd u (fun k I e=>by rw[e] at I;exact v I))⟩,((O.trans nW).mono (T:=S) (fun _ _ h=>h.elim)).then u (fun i H e=>by omega)⟩
 have y:=qb bad
 have HB:=qb L
 have HD:=qb hD
 have HI:=qb h.inL
 have H1:=qb h1
 have b8:=qb h.lt
 have N1:=qb O
 have b4:=qb h.ok
 have c1:(c.xs.length:Int)≤1000000:=by have:=h.ok.few;omega
 clear h h1 L O bad hD hT
 go_wp2_with fail
 refine hb.mono ?_
 rintro e w2 ⟨rfl,K⟩
 clear hb
 cases M:qb0 false id c.xs with
 | none =>
  have H:=qj3 M;obtain⟨J,l,z,hU⟩:=qa y w2 K;have U:=qb (qz4 (p:=pre) M);have V:=qb l;have R:=qb z;have Z:=qb hU;rw[H];clear l z hU K M H F;go_wp2_with (with_reducible first|(first|refine' zi (qg ?_) ?_|refine' zj (qg ?_) ?_);rotate_left|refine' zk (qg ?_)|rfl|apply tn|refine' zl ?_);have l:=qa V;refine bodyPost_ret (qs rfl _ _ B _ _ _ _ rfl l.at_ Tryz.underlying71 rfl (by rw[l.agg];exact Tryz.infoMsg)) rfl ?_;rw[qa U];exact⟨rfl,qa R,qa Z⟩
 | some pr =>
  obtain⟨i,x⟩:=pr;obtain⟨H,o,-⟩:=qhu M;have h2:=(qa H1).new K;rw[H];have c4:=(List.getElem?_eq_some_iff.1 o).1;obtain⟨gl,cap,b6,rh⟩:=h2.hash o;have a4:w2.cell? ⟨g,47,none⟩=some N:=h2.toR.live;rw[b6] at a4;have c3:(i:Int)<(c.xs.length:Int):=by omega
  have a8:=((qa b4).xs x (List.mem_of_getElem? o)).h.hash;have X:=qb (fun W (nW:qq w2 W)=>qvt pre x.h.hash.toList q (by simp) a8 W ((F.new K).new nW).tabs);have Y:=qb (fun W (hW:ChP W g S c N nv av)=>qkl g S c N nv av i x true W hW o);have U:=qb (qr7 (p:=pre) M);have RA:=qb (((qa HD).new K).row);have RH:=qb rh;have N2:=qb K;have H2:=qb h2;clear K M H o h2 rh a8 F;go_upto_region 4 with (with_reducible first|(first|refine' zi (qg ?_) ?_|refine' zj (qg ?_) ?_);rotate_left|refine' zk (qg ?_)|rfl|apply tn|refine' zl ?_);have rA:=qa RA;have rh:=qa RH;clear RA RH;go_wp2_with (with_reducible first|(first|refine' zi (qg ?_) ?_|refine' zj (qg ?_) ?_);rotate_left|refine' zk (qg ?_)|rfl|apply tn|refine' zl ?_);refine(qa X _ ((Upd.refl _ _).drew)).mono ?_;rintro e w3 ⟨rfl,n3⟩;have h3:=((qa H2).new ((Upd.refl (fun _=>False) w2).drew)).new n3;have a9:qq w2 w3:=n3.ofDrew;have t:=qa Y w3 h3;have N3:=qb ((qa N2).trans a9);clear a4 rA rh h3 n3 a9 X Y;cases hO:qfm pre x.h.hash.toList with
  | false =>
   obtain⟨J,l,z,hU⟩:=qa y w3 (qa N3);have C:Hid (c.fulfill id pre=(c,MsgV.zero,132)):=qb (by rw[qa U,hO];simp);have V:=qb l;have R:=qb z;have Z:=qb hU;clear t l z hU hO;go_wp2_with (with_reducible first|(first|refine' zi (qg ?_) ?_|refine' zj (qg ?_) ?_);rotate_left|refine' zk (qg ?_)|rfl|apply tn|refine' zl ?_);have l:=qa V;refine bodyPost_ret (qs rfl _ _ B _ _ _ _ rfl l.at_ Tryz.underlying71 rfl (by rw[l.agg];exact Tryz.infoMsg)) rfl ?_;rw[qa C];exact⟨rfl,qa R,qa Z⟩
  | true =>
   have C:Hid (c.fulfill id pre=((c.removed i x true).say (qgc id pre),(qgc id pre).on c.s.ch,0)):=qb (by rw[qa U,hO];simp);clear hO U;go_wp2_with (with_reducible first|(first|refine' zi (qg ?_) ?_|refine' zj (qg ?_) ?_);rotate_left|refine' zk (qg ?_)|rfl|apply tn|refine' zl ?_);refine t.mono ?_;rintro e w4 ⟨rfl,h4,u4⟩;have m:=qrf g S (c.removed i x true) (qgc id pre) q w4 ⟨N,nv,av,h4⟩ a7;have U4:=qb ((((qa N1).trans (qa N3)).mono (T:=S) (fun _ _ h=>h.elim)).trans (u4.mono (T:=S) (fun k _ e=>qa HI k e)));have P:=qb (((qa HB).new (qa N3)).upd u4 (fun e=>v (qa HI B e)));have b3:=qb (((qa HD).new (qa N3)).upd u4 (fun e=>b5 (qa HI D e)));have bf:=fun W=>qrr 4 id pre q W
   clear t h4 u4;unfold qgc at m;go_upto_region 7 with (with_reducible first|(first|refine' zi (qg ?_) ?_|refine' zj (qg ?_) ?_);rotate_left|refine' zk (qg ?_)|rfl|apply tn|refine' zl ?_);have rD:=(qa b3).row;go_wp2_with (with_reducible first|(first|refine' zi (qg ?_) ?_|refine' zj (qg ?_) ?_);rotate_left|refine' zk (qg ?_)|rfl|apply tn|refine' zl ?_);refine m.mono ?_;rintro e w5 ⟨rfl,h5,u5⟩;have hl:((qgc id pre).on (c.removed i x true).s.ch).hash.length=32:=q;have E:=(qa P).upd u5 v;have J:=E.stOk hl;have l:=E.put hl;have u6:=qac (w:=w5) (b:=B) ((qgc id pre).on (c.removed i x true).s.ch).cells;have V:=qb l;have b7:=(qa U4).size;have z:=h5.upd u6 (fun k I e=>by
    rcases I with I | I
    ·exact v (e▸I)
    ·have:=(qa P).lt;omega)
   have R:=qb ((z.grow u6.size).later b7);have Z:=qb (((qa U4).trans u5).then u6 (fun i H e=>by omega));change stOk w5 B 0 38 ((⟨4,0,id,0,pre,0,0⟩:MsgV).on (c.removed i x true).s.ch).cells.toArray=true at J;clear m h5 u5 E l u6 z hl rD bf;go_wp2_with (with_reducible first|(first|refine' zi (qg ?_) ?_|refine' zj (qg ?_) ?_);rotate_left|refine' zk (qg ?_)|rfl|apply tn|refine' zl ?_);have l:=qa V;refine bodyPost_ret (qs rfl _ _ B _ _ _ _ rfl l.at_ Tryz.underlying71 rfl (by rw[l.agg];exact Tryz.infoMsg)) rfl ?_;rw[qa C];exact⟨rfl,qa R,qa Z⟩
end Go.Proofs.YthnohmjbbeahmaaGreatDoor
namespace Go.Proofs.YthnohmjbbeahmaaGreatDoor
open Go.RowKit
def zc(c:Ch)(x:Live):Ch :=
 if x.state=0 then (if x.own=true then {c.give true x.h.amount with k:= {c.k with nextOwn:=IntKind.u64.wrap (c.k.nextOwn-1)}} else {c.give false x.h.amount with k:= {c.k with nextTheirs:=IntKind.u64.wrap (c.k.nextTheirs-1)}}) else c
def qae(x:Live):Live:=if x.state=5 then {x with state:=4,paid:=false} else x
def qd1(xs:List Live):List Live:=(xs.filter fun x=> !(x.state==0)).map qae
def qem(xs:List Live):List Htlc:=(xs.filter fun x=>x.state==0&&x.own).map (·.h)
def qd8(xs:List Live):List Int:=(xs.filter fun x=>x.state==5 && !x.own).map (·.h.id)
def Ch.unsaid(c:Ch)(xs:List Live):Ch:= {c with xs:=xs,news:=[],k:= {c.k with shutHeard:=false}}
def Ch.cut(c:Ch):Ch:=(c.xs.foldl zc c).unsaid (qd1 c.xs)
theorem q7d{xs:List Live}{i:Nat}{x:Live}(l:xs[i]? = some x):qd1 (xs.take (i+1))=qd1 (xs.take i)++(if x.state=0 then [] else [qae x]):=by
 unfold qd1;rw[List.take_add_one,l,List.filter_append,List.map_append];by_cases h:x.state=0<;>simp[h]
theorem q7b{xs:List Live}{i:Nat}{x:Live}(c:Ch)(l:xs[i]? = some x):(xs.take (i+1)).foldl zc c=zc ((xs.take i).foldl zc c) x:=by
 rw[List.take_add_one,l,List.foldl_append];rfl
theorem q7e{xs:List Live}{i:Nat}{x:Live}(l:xs[i]? = some x):qem (xs.take (i+1))=qem (xs.take i)++(if x.state=0∧x.own=true then [x.h] else []):=by
 unfold qem;rw[List.take_add_one,l,List.filter_append,List.map_append];by_cases h:x.state=0<;>cases m:x.own<;>simp[h,m]
theorem q7f{xs:List Live}{i:Nat}{x:Live}(l:xs[i]? = some x):qd8 (xs.take (i+1))=qd8 (xs.take i)++(if x.state=5∧x.own=false then [x.h.id] else []):=by
 unfold qd8;rw[List.take_add_one,l,List.filter_append,List.map_append];by_cases h:x.state=5<;>cases m:x.own<;>simp[h,m]
theorem qzn(xs:List Live):(qd1 xs).length≤xs.length:=by
 unfold qd1;rw[List.length_map];exact List.length_filter_le _ _
theorem zav(xs:List Live):(qem xs).length≤xs.length:=by
 unfold qem;rw[List.length_map];exact List.length_filter_le _ _
theorem zaw(xs:List Live):(qd8 xs).length≤xs.length:=by
 unfold qd8;rw[List.length_map];exact List.length_filter_le _ _
theorem q2v{x:Live}(h:LiveOk x):LiveOk (qae x):=by
 unfold qae;split
 ·exact⟨h.h,by show _≤(4:Int)∧(4:Int)≤_;decide⟩
 ·exact h
section
variable {w:World}{g:Nat}{S:Nat→Prop}{c:Ch}{lv nv av:Value}
theorem ChP.putNextOwn(h:ChP w g S c lv nv av)(n:Int)(i:0≤n∧n<18446744073709551616):ChP (w.setCell ⟨g,40,none⟩ (.int .u64 n)) g S {c with k:= {c.k with nextOwn:=n}} lv nv av :=
 h.put (qqk c lv nv av h.ok.s.seed n) ⟨h.ok.s,h.ok.signed,h.ok.heard,i,h.ok.nextTheirs,h.ok.loc,h.ok.rem,h.ok.xs,h.ok.few,h.ok.shelf,h.ok.news,h.ok.last,h.ok.many⟩ rfl rfl rfl
theorem ChP.putNextTheirs(h:ChP w g S c lv nv av)(n:Int)(i:0≤n∧n<18446744073709551616):ChP (w.setCell ⟨g,41,none⟩ (.int .u64 n)) g S {c with k:= {c.k with nextTheirs:=n}} lv nv av :=
 h.put (ql5 c lv nv av h.ok.s.seed n) ⟨h.ok.s,h.ok.signed,h.ok.heard,h.ok.nextOwn,i,h.ok.loc,h.ok.rem,h.ok.xs,h.ok.few,h.ok.shelf,h.ok.news,h.ok.last,h.ok.many⟩ rfl rfl rfl
end
theorem zb5:∃i z b,Tryz.prog.info? 54=some i∧i.zero=some z∧i.size=35∧i.bytes=b∧z.cells.size=35∧b≤1000:=by
 obtain⟨i,z,m,t,q⟩:=qed Tryz.zeroHtlc';have l:(Tryz.prog.info? 54).map (fun i=>decide (i.bytes≤1000))=some true:=by kernel_rfl
 have o:=Tryz.infoHtl;rw[m,Option.map_some,Option.some.injEq] at l o;exact⟨i,z,i.bytes,m,t,o,rfl,by rw[q];rfl,of_decide_eq_true l⟩
theorem Tryz.zeroU64:((Tryz.prog.info? 27).map fun i=>i.zero.map fun z=>z.cells.toList)=some (some [.int .u64 0]):=by kernel_rfl
theorem Tryz.infoU64:(Tryz.prog.info? 27).map (·.size)=some 1:=by kernel_rfl
theorem zem:∃i z b,Tryz.prog.info? 27=some i∧i.zero=some z∧i.size=1∧i.bytes=b∧z.cells.size=1∧b≤1000:=by
 obtain⟨i,z,m,t,q⟩:=qed Tryz.zeroU64;have l:(Tryz.prog.info? 27).map (fun i=>decide (i.bytes≤1000))=some true:=by kernel_rfl
 have o:=Tryz.infoU64;rw[m,Option.map_some,Option.some.injEq] at l o;exact⟨i,z,i.bytes,m,t,o,rfl,by rw[q];rfl,of_decide_eq_true l⟩
def zg5(n:Nat)(p:Array (Nat × Value)):Sem Value:=Instr.buildSlice 88 n p
theorem qze(n:Nat)(p:Array (Nat × Value)):Instr.buildSlice 88 n p=zg5 n p:=rfl
theorem zib(A:List Value)(w:World):(zg5 1 #[(0,.agg A.toArray)]).run Tryz.prog w=if A.length=35 then .ok (.slice (some ⟨w.heap.size,0,none⟩) 1 1) (w.alloc (.cells A.toArray 54)) else (Instr.buildSlice 88 1 #[(0,.agg A.toArray)]).run Tryz.prog w:=by
 by_cases h:A.length=35
 ·rw[if_pos h];exact q4g Tryz.underlying88 Tryz.zeroHtlc' Tryz.infoHtl rfl (by decide) (by decide) A h w
 ·rw[if_neg h];rfl
theorem zck(x:Live):(qk x).toArray.extract 0 (0+35)=(qz x.h).toArray:=by
 apply Array.ext';rw[Array.toList_extract];unfold qk;rw[List.extract_eq_take_drop];simp[qbj]
structure CutS(w0 w:World)(g K R:Nat)(S:Nat→Prop)(ci:Ch)(lv nv av kv ov rv:Value)(ks:List Live)(os:List Htlc)(rs:List Int):Prop where
 ch:ChP w g S ci lv nv av
 k:w.heap[K]? = some (.cells #[ov,rv] 91 (0,0))
 r:w.heap[R]? = some (.cells #[.slice none 0 0,.slice none 0 0] 91 (0,0))
 ko:w.ownsRow w0.heap.size 56 38 kv ks.length (ks.flatMap qk)
 oo:w.ownsRow w0.heap.size 54 35 ov os.length (os.flatMap qz)
 ro:w.ownsRow w0.heap.size 27 1 rv rs.length (rs.map (Value.int .u64))
 u:Upd (· = g) w0 w
 lt:∀k,S k→k<w0.heap.size
 kge:w0.heap.size≤K
 rge:w0.heap.size≤R
 ne:R≠K
section
variable {w0 w w':World}{g K R:Nat}{S:Nat→Prop}{ci cj:Ch}{lv nv av kv ov rv v:Value}{ks ks':List Live}{os os':List Htlc}{rs rs':List Int}
theorem CutS.glt(h:CutS w0 w g K R S ci lv nv av kv ov rv ks os rs):g<w0.heap.size:=h.lt g h.ch.inG
theorem CutS.new(h:CutS w0 w g K R S ci lv nv av kv ov rv ks os rs)(n:qq w w'):CutS w0 w' g K R S ci lv nv av kv ov rv ks os rs :=
 ⟨h.ch.new n,n.old h.k (fun h=>h),n.old h.r (fun h=>h),zg h.ko n (fun _ _ h=>h),zg h.oo n (fun _ _ h=>h),zg h.ro n (fun _ _ h=>h),h.u.trans (n.mono (fun _ _ h=>h.elim)),h.lt,h.kge,h.rge,h.ne⟩
theorem CutS.op(h:CutS w0 w g K R S ci lv nv av kv ov rv ks os rs)(m:ChP w' g S cj lv nv av)(u:Upd (· = g) w w'):CutS w0 w' g K R S cj lv nv av kv ov rv ks os rs:=by
 have x:=h.glt;have i:∀ {T:TypeId} {t n:Nat} {v:Value} {l:List Value},w.ownsRow w0.heap.size T t v n l→∀k,v.ownBlock=some k→¬k=g:=fun q k o e=>by have:=qs9 q k o;omega
 have:=h.kge;have:=h.rge;exact⟨m,u.old h.k (fun e=>by omega),u.old h.r (fun e=>by omega),zg h.ko u (i h.ko),zg h.oo u (i h.oo),zg h.ro u (i h.ro),h.u.trans u,h.lt,h.kge,h.rge,h.ne⟩
theorem CutS.grow(h:CutS w0 w g K R S ci lv nv av kv ov rv ks os rs){T:TypeId}{J n:Nat}{l:List Value}(q:w.ownsRow w0.heap.size T J v n l)(u:Upd (fun k=>v.ownBlock=some k) w w')(F:T≠91) :
  ChP w' g S ci lv nv av∧w'.heap[K]? = some (.cells #[ov,rv] 91 (0,0))∧w'.heap[R]? = some (.cells #[.slice none 0 0,.slice none 0 0] 91 (0,0)) ∧
  (T≠56→w'.ownsRow w0.heap.size 56 38 kv ks.length (ks.flatMap qk))∧(T≠54→w'.ownsRow w0.heap.size 54 35 ov os.length (os.flatMap qz))∧(T≠27→w'.ownsRow w0.heap.size 27 1 rv rs.length (rs.map (Value.int .u64)))∧Upd (· = g) w0 w':=by
 have C:∀ {U:TypeId} {t H:Nat} {D:Value} {l2:List Value},T≠U→w.ownsRow w0.heap.size U t D H l2→∀k,D.ownBlock=some k→¬v.ownBlock=some k:=by
  intro U t H D l2 z I k y e;obtain⟨E,m⟩:=qal q k e;obtain⟨L,x⟩:=qal I k y;exact qap m x z rfl
 refine⟨h.ch.upd u (fun k y e=>by have:=h.lt k y;have:=qs9 q k e;omega),u.old h.k ?_,u.old h.r ?_,fun o=>zg h.ko u (C o h.ko),fun o=>zg h.oo u (C o h.oo),fun o=>zg h.ro u (C o h.ro),h.u.then u (fun i M e=>by have:=qs9 q i e;omega)⟩
 ·intro e;obtain⟨E,m⟩:=qal q K e;exact qap m h.k F rfl
 ·intro e;obtain⟨E,m⟩:=qal q R e;exact qap m h.r F rfl
theorem CutS.putO(h:CutS w0 w g K R S ci lv nv av kv ov rv ks os rs)(u:Upd (fun k=>ov.ownBlock=some k) w w')(E:w'.ownsRow w0.heap.size 54 35 v os'.length (os'.flatMap qz)):CutS w0 (w'.setCell ⟨K,0,none⟩ v) g K R S ci lv nv av kv v rv ks os' rs:=by
 obtain⟨a1,a2,a3,C,-,D,H⟩:=h.grow h.oo u (by decide);have L:CutS w0 w' g K R S ci lv nv av kv ov rv ks [] rs→True:=fun _=>trivial
 have l:Upd (· = K) w' (w'.setCell ⟨K,0,none⟩ v):=(Upd.refl _ _).set1 0 v;have M:=h.glt;have J:=h.kge;have o:=h.ne;have y:∀ {U:TypeId} {m F:Nat} {z:Value} {l2:List Value},U≠91→w'.ownsRow w0.heap.size U m z F l2→∀k,z.ownBlock=some k→¬k=K:=by
  intro U m F z l2 x o k t e;obtain⟨I,q⟩:=qal o k t;exact qap q a2 x e
 exact⟨a1.upd l (fun k t e=>by have:=h.lt k t;omega),by rw[qah a2];rfl,l.old a3 o,zg (C (by decide)) l (y (by decide) (C (by decide))),zg E l (y (by decide) E),zg (D (by decide)) l (y (by decide) (D (by decide))),H.then l (fun i N e=>by omega),h.lt,h.kge,h.rge,h.ne⟩
theorem CutS.putR(h:CutS w0 w g K R S ci lv nv av kv ov rv ks os rs)(u:Upd (fun k=>rv.ownBlock=some k) w w')(E:w'.ownsRow w0.heap.size 27 1 v rs'.length (rs'.map (Value.int .u64))):CutS w0 (w'.setCell ⟨K,1,none⟩ v) g K R S ci lv nv av kv ov v ks os rs':=by
 obtain⟨a1,a2,a3,C,D,-,H⟩:=h.grow h.ro u (by decide);have l:Upd (· = K) w' (w'.setCell ⟨K,1,none⟩ v):=(Upd.refl _ _).set1 1 v;have L:=h.glt;have J:=h.kge;have o:=h.ne;have y:∀ {U:TypeId} {m F:Nat} {z:Value} {l2:List Value},U≠91→w'.ownsRow w0.heap.size U m z F l2→∀k,z.ownBlock=some k→¬k=K:=by
  intro U m F z l2 x o k t e;obtain⟨I,q⟩:=qal o k t;exact qap q a2 x e
 exact⟨a1.upd l (fun k t e=>by have:=h.lt k t;omega),by rw[qah a2];rfl,l.old a3 o,zg (C (by decide)) l (y (by decide) (C (by decide))),zg (D (by decide)) l (y (by decide) (D (by decide))),zg E l (y (by decide) E),H.then l (fun i M e=>by omega),h.lt,h.kge,h.rge,h.ne⟩
theorem CutS.putL(h:CutS w0 w g K R S ci lv nv av kv ov rv ks os rs)(u:Upd (fun k=>kv.ownBlock=some k) w w')(o:w'.ownsRow w0.heap.size 56 38 v ks'.length (ks'.flatMap qk)):CutS w0 w' g K R S ci lv nv av v ov rv ks' os rs:=by
 obtain⟨a1,a2,a3,-,i,l,m⟩:=h.grow h.ko u (by decide);exact⟨a1,a2,a3,o,i (by decide),l (by decide),m,h.lt,h.kge,h.rge,h.ne⟩
theorem CutS.other(h:CutS w0 w g K R S ci lv nv av kv ov rv ks os rs){X:Nat}(u:Upd (· = X) w w')(o:w.heap.size≤X∨(w0.heap.size≤X∧X≠K∧X≠R∧(∀k,kv.ownBlock=some k→k≠X)∧(∀k,ov.ownBlock=some k→k≠X)∧(∀k,rv.ownBlock=some k→k≠X))):CutS w0 w' g K R S ci lv nv av kv ov rv ks os rs:=by
 have I:=h.glt;have L:=h.u.size;have x:∀ {U:TypeId} {q z:Nat} {y:Value} {l2:List Value},w.ownsRow w0.heap.size U q y z l2→∀k,y.ownBlock=some k→k<w.heap.size:=by
  intro U q z y l2 C k m;obtain⟨H,t⟩:=qal C k m;exact qad t
 have D:=qad h.k;have E:=qad h.r;have F:w0.heap.size≤X:=by rcases o with e | e<;>omega
 refine⟨h.ch.upd u (fun k m e=>by have:=h.lt k m;omega),u.old h.k (fun e=>by rcases o with l | l<;>omega),u.old h.r (fun e=>by rcases o with l | l<;>omega),zg h.ko u (fun k m e=> ?_),zg h.oo u (fun k m e=> ?_),zg h.ro u (fun k m e=> ?_),h.u.then u (fun i J e=>by omega),h.lt,h.kge,h.rge,h.ne⟩
 ·have:=x h.ko k m;rcases o with l | l
  ·omega
  ·exact l.2.2.2.1 k m e
 ·have:=x h.oo k m;rcases o with l | l
  ·omega
  ·exact l.2.2.2.2.1 k m e
 ·have:=x h.ro k m;rcases o with l | l
  ·omega
  ·exact l.2.2.2.2.2 k m e
end
theorem ChP.noNews{w:World}{g:Nat}{S:Nat→Prop}{c:Ch}{lv nv av:Value}(h:ChP w g S c lv nv av):ChP (w.setCell ⟨g,626,none⟩ qcg) g S {c with news:=[]} lv qcg av:=by
 have u:Upd (· = g) w (w.setCell ⟨g,626,none⟩ qcg):=(Upd.refl _ _).set1 626 _;have i:=qah h.at_ 626 qcg;rw[qtn c lv nv av h.ok.s.seed h.ok.shelf [] qcg] at i;have t:∀ {T:TypeId} {q n:Nat} {v:Value} {l:List Value},T≠106→w.ownsRow 0 T q v n l→∀k,v.ownBlock=some k→¬k=g:=by
  intro T q n v l y D k o e;obtain⟨x,z⟩:=qal D k o;exact qap z h.at_ y e
 exact⟨i,⟨h.ok.s,h.ok.signed,h.ok.heard,h.ok.nextOwn,h.ok.nextTheirs,h.ok.loc,h.ok.rem,h.ok.xs,h.ok.few,h.ok.shelf,(fun m C=>by cases C),h.ok.last,⟨Nat.zero_le _,h.ok.many.2⟩⟩,zg h.live u (t (by decide) h.live),World.ownsRow_nil _ _ _ _,zg h.last u (t (by decide) h.last),h.inG,h.inL,(fun k e=>by cases e),h.inA,(fun k e=>by cases e),fun k o=>Nat.lt_of_lt_of_le (h.lt k o) u.size⟩
theorem q0r(x:Live):(((qk x).toArray.setIfInBounds 36 (.int .i64 4)).setIfInBounds 37 (.bool false))=(qk {x with state:=4,paid:=false}).toArray:=by
 unfold qk;rw[List.setIfInBounds_toArray,List.setIfInBounds_toArray,List.set_append_right _ _ (by rw[qbj];omega),List.set_append_right _ _ (by rw[qbj];omega),qbj];rfl
end Go.Proofs.YthnohmjbbeahmaaGreatDoor
