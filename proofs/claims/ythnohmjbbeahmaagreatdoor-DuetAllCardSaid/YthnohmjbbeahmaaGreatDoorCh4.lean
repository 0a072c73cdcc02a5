/-
  Offer.
-/
import Derived.Test.YthnohmjbbeahmaaGreatDoorMad
set_option linter.unusedVariables false
set_option linter.unusedSimpArgs false
namespace Go.Proofs.YthnohmjbbeahmaaGreatDoor
open Go.RowKit
attribute [local go_sem ↓ high] zr zu zw zx zy qk7 qpx qo7 qo9 qpc qh1
attribute [local go_sem] qb3 qb9 qcf qbg zb qcl q2b zci q8n q05 q3u qvs qq1
def qa8(c:Ch)(n ex:Int):Int :=
 if c.k.shutSaid=true then 135 else if n=0 then 1 else if ex<1∨1073741824<ex then 131 else if 8≤qdg true c.xs then 130 else if c.loc<n then 61 else 0
def qe5(c:Ch)(n:Int)(h:Vector Int 32)(ex:Int):Live:=⟨⟨c.k.nextOwn,n,h,ex⟩,true,0,false⟩
def Ch.offered(c:Ch)(n:Int)(h:Vector Int 32)(ex:Int):Ch :=
 {c with loc:=c.loc-n,k:= {c.k with nextOwn:=IntKind.u64.wrap (c.k.nextOwn+1)},xs:=c.xs++[qe5 c n h ex]}
def qev(c:Ch)(n:Int)(h:Vector Int 32)(ex:Int):MsgV:=⟨3,0,c.k.nextOwn,n,h.toList,ex,0⟩
def Ch.offer(c:Ch)(n:Int)(h:Vector Int 32)(ex:Int):Ch × MsgV × Int :=
 if qa8 c n ex=0 then ((c.offered n h ex).say (qev c n h ex),(qev c n h ex).on c.s.ch,0) else (c,MsgV.zero,qa8 c n ex)
theorem qjz:∃i z b,Tryz.prog.info? 56=some i∧i.zero=some z∧i.size=38∧i.bytes=b∧z.cells.size=38∧b≤1000:=by
 obtain⟨i,z,l,q,o⟩:=qec Tryz.zeroLive';have g:(Tryz.prog.info? 56).map (fun i=>decide (i.bytes≤1000))=some true:=by kernel_rfl
 have m:=Tryz.infoLive;rw[l,Option.map_some,Option.some.injEq] at g m;exact⟨i,z,i.bytes,l,q,m,rfl,by rw[o];rfl,of_decide_eq_true g⟩
theorem ChP.appLive{z q:World}{g:Nat}{S:Nat→Prop}{c:Ch}{K nv N:Value}(h:ChP z g S c K nv N)(x:Live)(Z:LiveOk x)(W:c.xs.length<1000000)(l:Value)(o:q.ownsRow 0 56 38 l (c.xs.length+1) (c.xs.flatMap ql++ql x))(P:z.grownBy q K.ownBlock)(t:l.ownBlock=K.ownBlock∨l.ownBlock=some z.heap.size) :
  ChP (q.setCell ⟨g,47,none⟩ l) g (Fr S z (q.setCell ⟨g,47,none⟩ l)) {c with xs:=c.xs++[x]} l nv N∧Upd S z (q.setCell ⟨g,47,none⟩ l):=by
 have M:Upd (fun k=>K.ownBlock=some k) z q:=(Upd.refl _ _).grown P (fun k i _=>i)
 have C:∀ {T:TypeId} {v:Value} {n:Nat} {xs:List Value},T≠106→z.ownsRow 0 T 38 v n xs→∀k,v.ownBlock=some k→k≠g:=by
  intro T v n xs Y H k i e;obtain⟨D,F⟩:=qai H k i;exact qao F h.at_ Y e
 have E:=M.old h.at_ (fun e=>C (by decide) h.live g e rfl)
 have L:Upd (· = g) q (q.setCell ⟨g,47,none⟩ l):=(Upd.refl _ _).set1 47 _
 have m:=z7 E 47 l
 rw[q0a c K nv N h.ok.s.seed (c.xs++[x])] at m
 have R:∀k,l.ownBlock=some k→k≠g:=by
  intro k i;rcases t with e | e
  ·rw[e] at i;exact C (by decide) h.live k i
  ·rw[e] at i;injection i with i;have:=z6 h.at_;omega
 have I:∀k,l.ownBlock=some k→k<q.heap.size:=fun k i=>by
  obtain⟨D,F⟩:=qai o k i;exact z6 F
 have hz:=M.size
 have U:=L.size
 generalize q.setCell ⟨g,47,none⟩ l=X at L m U ⊢
 have w:∀ {v:Value} {n:Nat} {xs:List Value},z.ownsRow 0 71 38 v n xs→X.ownsRow 0 71 38 v n xs:=by
  intro v n xs H;refine zc (zc H M (fun k i e=> ?_)) L (fun k i e=>C (by decide) H k i e);obtain⟨D,F⟩:=qai H k i;obtain⟨V,O⟩:=qai h.live k e;exact qao F O (by decide) rfl
 refine⟨⟨m,⟨h.ok.s,h.ok.signed,h.ok.heard,h.ok.nextOwn,h.ok.nextTheirs,h.ok.loc,h.ok.rem,?_,?_,h.ok.shelf,h.ok.news,h.ok.last,h.ok.many⟩,?_,w h.news,w h.last,.inl h.inG,?_,fun k e=> .inl (h.inN k e),fun k e=> .inl (h.inA k e),h.sep,?_⟩,(M.mono (fun k _ e=>h.inL k e)).trans (L.mono (fun k _ e=>by rw[e];exact h.inG))⟩
 ·intro y J;rcases List.mem_append.1 J with J | J
  ·exact h.ok.xs y J
  ·rw[List.mem_singleton.1 J];exact Z
 ·show (c.xs++[x]).length≤1000000;rw[List.length_append];simp;omega
 ·show X.ownsRow 0 _ 38 l (c.xs++[x]).length ((c.xs++[x]).flatMap ql);rw[List.length_append,List.flatMap_append];have:[x].flatMap ql=ql x:=by simp
  rw[this];exact zc o L (fun k i e=>R k i e)
 ·intro k i;rcases t with e | e
  ·rw[e] at i;exact .inl (h.inL k i)
  ·have:=I k i;rw[e] at i;injection i with i;exact .inr ⟨by omega,by omega⟩
 ·rintro k (i | i)
  ·have:=h.lt k i;omega
  ·exact i.2
set_option maxRecDepth 100000 in
set_option maxHeartbeats 800000 in
theorem q7c(g:Nat)(S:Nat→Prop)(c:Ch)(n:Int)(hv:Vector Int 32)(ex:Int)(w:World)(h:ChS w g S c)(hn:0≤n∧n<18446744073709551616)(hx : -9223372036854775808≤ex∧ex≤9223372036854775807)(hb:∀b∈hv.toList,0≤b∧b≤255)(d7:c.news.length<1000000∧c.xs.length<1000000) :
  Calls Tryz.prog 30 #[.pointer (some ⟨g,0,none⟩),.int .u64 n,.agg (hv.toList.map (Value.int .u8)).toArray,.int .i64 ex] w fun e w' =>
   e = .returned (.tuple #[.agg (c.offer n hv ex).2.1.cells.toArray,.int .i64 (c.offer n hv ex).2.2])∧ChS w' g (Fr S w w') (c.offer n hv ex).1∧Upd S w w':=by
 obtain⟨lv,nv,av,h⟩:=h
 have a8:(hv.toList.map (Value.int .u8)).length=32:=by simp
 obtain⟨H,f3⟩:∃H,H=hv.toList.map (Value.int .u8):=⟨_,rfl⟩
 rw[←f3] at a8 ⊢
 have g4:=qb f3
 clear f3
 go_enter Tryz.func30,Tryz.ntmps30
 go_upto_region 1 with fail
 have c8:((w.alloc (.cells H.toArray 33)).alloc (.cells MsgV.zero.cells.toArray 71)).heap[w.heap.size]? = some (.cells H.toArray 33 (0,0)):=zj (qi _ _) _
 have c9:((w.alloc (.cells H.toArray 33)).alloc (.cells MsgV.zero.cells.toArray 71)).heap[w.heap.size+1]? = some (.cells MsgV.zero.cells.toArray 71 (0,0)):=by
  have:=qi (w.alloc (.cells H.toArray 33)) (.cells MsgV.zero.cells.toArray 71);rwa [World.size_alloc] at this
 have nA:qu w ((w.alloc (.cells H.toArray 33)).alloc (.cells MsgV.zero.cells.toArray 71)):=((Upd.refl _ _).alloc _).alloc _
 generalize (w.alloc (.cells H.toArray 33)).alloc (.cells MsgV.zero.cells.toArray 71)=wA at c8 c9 nA ⊢
 obtain⟨A,h2⟩:∃A,A=w.heap.size:=⟨_,rfl⟩
 obtain⟨B,h6⟩:∃B,B=w.heap.size+1:=⟨_,rfl⟩
 rw[←h6] at c9 ⊢
 rw[←h2] at c8 ⊢
 have hA:=h.new nA
 have f8:g≠A:=by have:=h.lt g h.inG;omega
 have f9:g≠B:=by have:=h.lt g h.inG;omega
 have k2:w.heap.size≤A:=by omega
 have k3:w.heap.size≤B:=by omega
 have n2:B≠A:=by omega
 clear h2 h6
 have e7:wA.cell? ⟨g,42,none⟩=some (.bool c.k.shutSaid):=hA.toR.shutSaid
 have b7:wA.cell? ⟨g,45,none⟩=some (.int .u64 c.loc):=hA.toR.loc
 have bad:∀(W:World),qu w W→W.heap[B]? = some (.cells MsgV.zero.cells.toArray 71 (0,0)) →
   stOk W B 0 38 MsgV.zero.cells.toArray=true∧(W.setCells B 0 MsgV.zero.cells).heap[B]? = some (.cells MsgV.zero.cells.toArray 71 (0,0))∧ChS (W.setCells B 0 MsgV.zero.cells) g (Fr S w (W.setCells B 0 MsgV.zero.cells)) c∧Upd S w (W.setCells B 0 MsgV.zero.cells):=by
  intro W nW hW
  have u:Upd (· = B) W (W.setCells B 0 MsgV.zero.cells):=(Upd.refl _ _).setCells 0 _
  exact⟨qlm (m:=MsgV.zero) hW qs,qk5 (m:=MsgV.zero) hW qs,((h.new nW).upd u (fun k J e=>by have:=h.lt k J;omega)).fr w,((nW.mono (fun _ _ h=>h.elim)).then u (fun i hi e=>by omega))⟩
 have N:=qb bad
 have H0:=qb h
 have HA:=qb hA
 have NA:=qb nA
 have BA:=qb c8
 have BB:=qb c9
 clear bad h hA nA c8 c9
 by_cases e1:c.k.shutSaid=true
 ·have M:qa8 c n ex=135:=by unfold qa8;rw[if_pos e1]
  rw[e1] at e7;have I:c.offer n hv ex=(c,MsgV.zero,135):=by unfold Ch.offer;rw[if_neg (by rw[M];decide),M]
  have HO:=qb I;clear I M;go_upto_region 2 with fail;obtain⟨T,l,z,U⟩:=qa N wA (qa NA) (qa BB);have Z:=qb l;have HC:=qb z;have HU:=qb U;clear l z U;go_wp2_with fail;refine bodyPost_ret (qq rfl _ _ B _ _ _ _ rfl (qa Z) Tryz.underlying71 rfl (by rw[List.size_toArray,MsgV.len _ qs];exact Tryz.infoMsg)) rfl ?_;rw[qa HO];exact⟨rfl,qa HC,qa HU⟩
 have j7:c.k.shutSaid=false:=by simpa using e1
 rw[j7] at e7
 by_cases e2:n=0
 ·have M:qa8 c n ex=1:=by unfold qa8;rw[if_neg e1,if_pos e2]
  have I:c.offer n hv ex=(c,MsgV.zero,1):=by unfold Ch.offer;rw[if_neg (by rw[M];decide),M]
  have HO:=qb I;clear I M;go_upto_region 4 with fail;obtain⟨T,l,z,U⟩:=qa N wA (qa NA) (qa BB);have Z:=qb l;have HC:=qb z;have HU:=qb U;clear l z U;go_wp2_with fail;refine bodyPost_ret (qq rfl _ _ B _ _ _ _ rfl (qa Z) Tryz.underlying71 rfl (by rw[List.size_toArray,MsgV.len _ qs];exact Tryz.infoMsg)) rfl ?_;rw[qa HO];exact⟨rfl,qa HC,qa HU⟩
 by_cases e3:ex<1
 ·have M:qa8 c n ex=131:=by unfold qa8;rw[if_neg e1,if_neg e2,if_pos (.inl e3)]
  have I:c.offer n hv ex=(c,MsgV.zero,131):=by unfold Ch.offer;rw[if_neg (by rw[M];decide),M]
  have HO:=qb I;clear I M;go_upto_region 6 with fail;obtain⟨T,l,z,U⟩:=qa N wA (qa NA) (qa BB);have Z:=qb l;have HC:=qb z;have HU:=qb U;clear l z U;go_wp2_with fail;refine bodyPost_ret (qq rfl _ _ B _ _ _ _ rfl (qa Z) Tryz.underlying71 rfl (by rw[List.size_toArray,MsgV.len _ qs];exact Tryz.infoMsg)) rfl ?_;rw[qa HO];exact⟨rfl,qa HC,qa HU⟩
 by_cases e4:1073741824<ex
 ·have M:qa8 c n ex=131:=by unfold qa8;rw[if_neg e1,if_neg e2,if_pos (.inr e4)]
  have I:c.offer n hv ex=(c,MsgV.zero,131):=by unfold Ch.offer;rw[if_neg (by rw[M];decide),M]
  have HO:=qb I;clear I M;go_upto_region 6 with fail;obtain⟨T,l,z,U⟩:=qa N wA (qa NA) (qa BB);have Z:=qb l;have HC:=qb z;have HU:=qb U;clear l z U;go_wp2_with fail;refine bodyPost_ret (qq rfl _ _ B _ _ _ _ rfl (qa Z) Tryz.underlying71 rfl (by rw[List.size_toArray,MsgV.len _ qs];exact Tryz.infoMsg)) rfl ?_;rw[qa HO];exact⟨rfl,qa HC,qa HU⟩
 have i8:=qul g S c true wA ⟨lv,nv,av,qa HA⟩
 go_wp2_with fail
 refine i8.mono ?_
 rintro e w1 ⟨rfl,n1⟩
 have g7:=n1.cell b7 (fun h=>h)
 have d5:=(qa NA).trans n1
 have h3:=n1.old (qa BB) (fun h=>h)
 have N1:=qb d5
 have B1:=qb h3
 have M1:=qb n1
 clear b7 e7 i8 n1 d5 h3
 by_cases e5:8≤qdg true c.xs
 ·have M:qa8 c n ex=130:=by unfold qa8;rw[if_neg e1,if_neg e2,if_neg (by omega),if_pos e5]
  have j8:8≤(qdg true c.xs:Int):=by omega
  have I:c.offer n hv ex=(c,MsgV.zero,130):=by unfold Ch.offer;rw[if_neg (by rw[M];decide),M]
  have HO:=qb I;clear I M;go_upto_region 8 with fail;obtain⟨T,l,z,U⟩:=qa N w1 (qa N1) (qa B1);have Z:=qb l;have HC:=qb z;have HU:=qb U;clear l z U;go_wp2_with fail;refine bodyPost_ret (qq rfl _ _ B _ _ _ _ rfl (qa Z) Tryz.underlying71 rfl (by rw[List.size_toArray,MsgV.len _ qs];exact Tryz.infoMsg)) rfl ?_;rw[qa HO];exact⟨rfl,qa HC,qa HU⟩
 have j8:¬8≤(qdg true c.xs:Int):=by omega
 by_cases e6:c.loc<n
 ·have M:qa8 c n ex=61:=by unfold qa8;rw[if_neg e1,if_neg e2,if_neg (by omega),if_neg e5,if_pos e6]
  have I:c.offer n hv ex=(c,MsgV.zero,61):=by unfold Ch.offer;rw[if_neg (by rw[M];decide),M]
  have HO:=qb I;clear I M;go_upto_region 10 with fail;obtain⟨T,l,z,U⟩:=qa N w1 (qa N1) (qa B1);have Z:=qb l;have HC:=qb z;have HU:=qb U;clear l z U;go_wp2_with fail;refine bodyPost_ret (qq rfl _ _ B _ _ _ _ rfl (qa Z) Tryz.underlying71 rfl (by rw[List.size_toArray,MsgV.len _ qs];exact Tryz.infoMsg)) rfl ?_;rw[qa HO];exact⟨rfl,qa HC,qa HU⟩
 have M:qa8 c n ex=0:=by unfold qa8;rw[if_neg e1,if_neg e2,if_neg (by omega),if_neg e5,if_neg e6]
 have I:c.offer n hv ex=((c.offered n hv ex).say (qev c n hv ex),(qev c n hv ex).on c.s.ch,0):=by unfold Ch.offer;rw[if_pos M]
 have HO:=qb I
 clear I M
 go_upto_region 11 with fail
 have c0:=(qa HA).new (qa M1)
 have e9:=(qa M1).old (qa BA) (fun h=>h)
 have a5:w1.cell? ⟨g,40,none⟩=some (.int .u64 c.k.nextOwn):=c0.toR.nextOwn
 have rA:zm w1 A 0 32=some H.toArray:=qad e9 32 (by rw[List.size_toArray,a8])
 have h7:w1.drew.cell? ⟨g,40,none⟩=some (.int .u64 c.k.nextOwn)∧zm w1.drew A 0 32=some H.toArray:=⟨a5,rA⟩
 obtain⟨K,hK⟩:∃K:List Value,K = .int .u64 c.k.nextOwn :: .int .u64 n::(H++[.int .i64 ex]):=⟨_,rfl⟩
 have a9:K.length=35:=by rw[hK];simp[a8]
 have h9:K=ze (qe5 c n hv ex).h:=by rw[hK,qa g4];rfl
 have nD:qu w1 (w1.alloc (.cells (ze Htlc.zero).toArray 54)).drew:=((Upd.refl _ _).alloc _).drew
 have b3:(w1.alloc (.cells (ze Htlc.zero).toArray 54)).drew.heap[w1.heap.size]? = some (.cells (ze Htlc.zero).toArray 54 (0,0)):=qi w1 _
 have h8:w.heap.size≤w1.heap.size:=(qa N1).size
 have d1:g≠w1.heap.size:=by have:=z6 c0.at_;omega
 have h1:A≠w1.heap.size:=by have:=z6 e9;omega
 have h5:B≠w1.heap.size:=by have:=z6 (qa B1);omega
 have j4:=qb c0
 have g5:=qb h9
 have HK:=qb hK
 have a4:Hid ((w1.alloc (.cells (ze Htlc.zero).toArray 54)).drew.cell? ⟨g,40,none⟩=some (.int .u64 c.k.nextOwn)∧zm (w1.alloc (.cells (ze Htlc.zero).toArray 54)).drew A 0 32=some H.toArray):=qb ⟨nD.cell a5 (fun h=>h),qa9 rA nD (fun h=>h)⟩
 clear c0 e9 a5 rA h9 hK
 refine qc7 (fun w'=>w'.cell? ⟨g,40,none⟩=some (.int .u64 c.k.nextOwn)∧zm w' A 0 32=some H.toArray) [4,6] (.of [0,1,2,3,4,5,6,7,8,9,10]) (by kernel_rfl) (by kernel_rfl) h7 ?_
 simp only[Plan.of]
 go_wp2_with (with_reducible first|(first|refine' qw1 (qg ?_) ?_|refine' qw2 (qg ?_) ?_|refine' qw3 (qg ?_) ?_);rotate_left|refine' qw4 (qg ?_)|refine' qw5 (qg ?_)|rfl|apply qn)
 refine⟨qa a4,?_⟩
 obtain⟨E,hE⟩:∃E,E=w1.heap.size:=⟨_,rfl⟩
 rw[←hE] at b3 h8 d1 h1 h5 ⊢
 clear hE h7
 have f0:=nD.old ((qa M1).old (qa BA) (fun h=>h)) (fun h=>h)
 have f1:=nD.old (qa B1) (fun h=>h)
 have f5:=(qa j4).new nD
 have g1:=(qa N1).trans nD
 rw[←qa HK]
 generalize (w1.alloc (.cells (ze Htlc.zero).toArray 54)).drew=wD at b3 f0 f1 f5 g1 ⊢
 have f4:∀v∈K,v.oneCell'=true:=by rw[qa g5];exact qk3 _
 have T:stOk wD E 0 35 K.toArray=true:=qfb (C:=(ze Htlc.zero).toArray) b3 (by rw[a9];rfl) f4
 have i4:(wD.setCells E 0 K).heap[E]? = some (.cells K.toArray 54 (0,0)):=by
  rw[qa2 b3 0 K,qcz _ _ (by rw[a9];rfl)]
 have uE:Upd (· = E) wD (wD.setCells E 0 K):=(Upd.refl _ _).setCells 0 K
 have h0:=uE.old f0 h1
 have h4:=uE.old f1 h5
 have t:=f5.upd uE (fun k J e=>by have:=(qa H0).lt k J;omega)
 have g2:qu w (wD.setCells E 0 K):=g1.then uE (fun i hi e=>by omega)
 have P3:=qb t
 have A3:=qb h0
 have B3:=qb h4
 have E3:=qb i4
 clear f0 f1 f5 g1 b3 i4 uE h0 h4 t nD g7 a4
 go_upto_region 12 with (with_reducible first|(first|refine' qw1 (qg ?_) ?_|refine' qw2 (qg ?_) ?_|refine' qw3 (qg ?_) ?_);rotate_left|refine' qw4 (qg ?_)|refine' qw5 (qg ?_)|rfl|apply qn)
 clear T
 generalize wD.setCells E 0 K=w3 at P3 A3 B3 E3 g2 ⊢
 have t:=qa P3
 have b7:w3.cell? ⟨g,45,none⟩=some (.int .u64 c.loc):=t.toR.loc
 have k0:w3.frozen? ⟨g,45,none⟩=false:=qv t.at_ 45
 have n3:=t.ok.loc
 have n4:=t.ok.nextOwn
 have l7:IntKind.u64.wrap (c.loc-n)=c.loc-n:=qaw (by omega) (by omega)
 obtain⟨c1,R⟩:∃c1:Ch,c1 = {c with loc:=c.loc-n} := ⟨_,rfl⟩
 have d8:c1.Ok:=by
  rw[R];exact⟨t.ok.s,t.ok.signed,t.ok.heard,t.ok.nextOwn,t.ok.nextTheirs,show 0≤c.loc-n∧c.loc-n<_ by omega,t.ok.rem,t.ok.xs,t.ok.few,t.ok.shelf,t.ok.news,t.ok.last,t.ok.many⟩
 have F:=t.put (i:=45) (x:= .int .u64 (c.loc-n)) (c':=c1) (by rw[R];exact q4v c lv nv av t.ok.s.seed (c.loc-n)) d8 (by rw[R]) (by rw[R]) (by rw[R])
 have u4:Upd (· = g) w3 (w3.setCell ⟨g,45,none⟩ (.int .u64 (c.loc-n))):=(Upd.refl _ _).set1 45 _
 have P4:=qb F
 have A4:=qb (u4.old (qa A3) (fun e=>f8 e.symm))
 have B4:=qb (u4.old (qa B3) (fun e=>f9 e.symm))
 have E4:=qb (u4.old (qa E3) (fun e=>d1 e.symm))
 have U4:=qb ((g2.mono (fun _ _ h=>h.elim)).trans (u4.mono (fun k _ e=>by rw[e];exact(qa H0).inG)):Upd S w _)
 clear t d8 F u4 P3 A3 B3 E3 g2
 go_upto_region 13 with (with_reducible first|(first|refine' tw1 (qg ?_) ?_|refine' tw2 (qg ?_) ?_);rotate_left|refine' tw3 (qg ?_)|rfl|apply tn|refine' tw4 ?_)
 clear b7 k0 l7
 generalize w3.setCell ⟨g,45,none⟩ (.int .u64 (c.loc-n))=w4 at P4 A4 B4 E4 U4 ⊢
 have F:=qa P4
 have l4:c1.k=c.k:=by rw[R]
 have a5:w4.cell? ⟨g,40,none⟩=some (.int .u64 c.k.nextOwn):=by rw[←l4];exact F.toR.nextOwn
 have j9:w4.frozen? ⟨g,40,none⟩=false:=qv F.at_ 40
 obtain⟨P,b8⟩:∃x,x=IntKind.u64.wrap (c.k.nextOwn+1):=⟨_,rfl⟩
 have i3:0≤P∧P<18446744073709551616:=by rw[b8,IntKind.wrap_u64];omega
 have l9:IntKind.u64.wrap (c.k.nextOwn+1)=P:=b8.symm
 obtain⟨c2,X⟩:∃c2:Ch,c2 = {c1 with k:= {c1.k with nextOwn:=P}} := ⟨_,rfl⟩
 have d9:c2.Ok:=by
  rw[X];exact⟨F.ok.s,F.ok.signed,F.ok.heard,i3,F.ok.nextTheirs,F.ok.loc,F.ok.rem,F.ok.xs,F.ok.few,F.ok.shelf,F.ok.news,F.ok.last,F.ok.many⟩
 have V:=F.put (i:=40) (x:= .int .u64 P) (c':=c2) (by rw[X];exact qpu c1 lv nv av F.ok.s.seed P) d9 (by rw[X]) (by rw[X]) (by rw[X])
 have u5:Upd (· = g) w4 (w4.setCell ⟨g,40,none⟩ (.int .u64 P)):=(Upd.refl _ _).set1 40 _
 have P5:=qb V
 have A5:=qb (u5.old (qa A4) (fun e=>f8 e.symm))
 have B5:=qb (u5.old (qa B4) (fun e=>f9 e.symm))
 have E5:=qb (u5.old (qa E4) (fun e=>d1 e.symm))
 have U5:=qb ((qa U4).trans (u5.mono (fun k _ e=>by rw[e];exact(qa H0).inG)))
 have a4:=qb R
 have g3:=qb X
 have j3:=qb b8
 clear F d9 V u5 P4 A4 B4 E4 U4 R X b8
 go_upto_region 14 with (with_reducible first|(first|refine' tw1 (qg ?_) ?_|refine' tw2 (qg ?_) ?_);rotate_left|refine' tw3 (qg ?_)|rfl|apply tn|refine' tw4 ?_)
 clear a5 j9 l9
 generalize w4.setCell ⟨g,40,none⟩ (.int .u64 P)=w5 at P5 A5 B5 E5 U5 ⊢
 have V:=qa P5
 have e8:w5.drew.cell? ⟨g,47,none⟩=some lv:=V.toR.live
 have rE:zm w5 E 0 35=some K.toArray:=qad (qa E5) 35 (by rw[List.size_toArray,a9])
 obtain⟨L,hL⟩:∃L:List Value,L=K++([.bool true,.int .i64 0,.bool false]:List Value):=⟨_,rfl⟩
 have k5:L.length=38:=by rw[hL];simp[a9]
 have i0:L=ql (qe5 c n hv ex):=by rw[hL,qa g5];rfl
 have k7:∀W:World,(qx0 #[(0,.agg K.toArray),(1,.bool true),(2,.int .i64 0)]).run Tryz.prog W = .ok (.agg L.toArray) W:=fun W=>by rw[q3u,if_pos a9,hL]
 obtain⟨i9,z9,b9,l3,j1,m2,m3,m4,k6⟩:=qjz
 obtain⟨la,m7,i6⟩:=qap V.live
 have j0:c2.xs=c.xs:=by rw[qa g3,qa a4]
 have nF:qu w5 (w5.alloc (.cells L.toArray 56)).drew:=((Upd.refl _ _).alloc _).drew
 have d0:(w5.alloc (.cells L.toArray 56)).drew.heap[w5.heap.size]? = some (.cells L.toArray 56 (0,0)):=qi w5 _
 have P6:=qb (V.new nF)
 have A6:=qb (nF.old (qa A5) (fun h=>h))
 have B6:=qb (nF.old (qa B5) (fun h=>h))
 have E6:=qb (nF.old (qa E5) (fun h=>h))
 have U6:=qb ((qa U5).trans (nF.mono (fun _ _ h=>h.elim)))
 have a6:=nF.cell e8 (fun h=>h)
 have HL:=qb hL
 have g6:=qb i0
 have j5:=qb j0
 clear V P5 A5 B5 E5 U5 hL i0 j0
 refine qc7 (fun w'=>w'.cell? ⟨g,47,none⟩=some lv) [4] (.of [0,1,2,3,4,5,6,7,8,9,10,11]) (by kernel_rfl) (by kernel_rfl) e8 ?_
 simp only[Plan.of]
 go_wp2_with (with_reducible first|(first|refine' qw1 (qg ?_) ?_|refine' qw2 (qg ?_) ?_|refine' qw3 (qg ?_) ?_);rotate_left|refine' qw4 (qg ?_)|refine' qw5 (qg ?_)|rfl|apply qn)
 refine⟨trivial,?_⟩
 clear e8 nF rE k7
 have k4:w.heap.size≤w5.heap.size:=by
  have:=(qa U6).size;have e:(w5.alloc (.cells L.toArray 56)).drew.heap.size=w5.heap.size+1:=World.size_alloc _ _;have:=z6 (qa E6);omega
 generalize (w5.alloc (.cells L.toArray 56)).drew=w6 at d0 P6 A6 B6 E6 U6 a6 ⊢
 generalize w5.heap.size=D at d0 k4 ⊢
 have O:=(qa P6).live
 unfold qvl at O
 rw[i6] at O
 have HN:=qb O
 clear O
 have k9:c2.xs.length<1000000:=by rw[qa j5];exact d7.2
 go_wp2_with (first | (at_builtin;refine wpList_append_own_at _ rfl (.tmp 76) (.tmp 79) 51 rfl 0 56 i9 _ 38 b9 Tryz.underlying51 l3 j1 m2 m3 m4 (by decide) _ _ _ rfl (qa HN) ⟨D,0,none⟩ 1 1 L rfl (by rw[k5]) ?c1 ?c2 ?c3 ?c4 ?c5 ?_) | (with_reducible first|(first|refine' qw1 (qg ?_) ?_|refine' qw2 (qg ?_) ?_|refine' qw3 (qg ?_) ?_);rotate_left|refine' qw4 (qg ?_)|refine' qw5 (qg ?_)|rfl|apply qn))
 case c1=>exact World.news_of_block (cs:=L.toArray) (fr:=(0,0)) d0
 case c2=>rw[qa g6];exact qet _
 case c3=>unfold maxLen;omega
 case c4=>have:=Nat.mul_le_mul (show c2.xs.length+1≤1000000 by omega) k6;omega
 case c5=>omega
 intro v' wE Y d2 _ b4
 obtain⟨a',g9,d3⟩:=qap Y
 rw[←i6] at d2 b4
 have m0:LiveOk (qe5 c n hv ex):=⟨⟨⟨(qa H0).ok.nextOwn.1,by have:=(qa H0).ok.nextOwn.2;show c.k.nextOwn≤_;omega⟩,⟨hn.1,by show n≤_;omega⟩,hb,hx⟩,⟨by show (-9223372036854775808:Int)≤0;decide,by show (0:Int)≤9223372036854775807;decide⟩⟩
 have c7:=(qa P6).appLive (qe5 c n hv ex) m0 k9 v' (by rw[←qa g6];exact Y) d2 b4
 have uE:Upd (fun k=>lv.ownBlock=some k) w6 wE:=(Upd.refl _ _).grown d2 (fun k J _=>J)
 have c6:=(qa H0).lt
 have l5:∀k,lv.ownBlock=some k→k<w.heap.size:=fun k J=>c6 k ((qa H0).inL k J)
 have uG:Upd (· = g) wE (wE.setCell ⟨g,47,none⟩ v'):=(Upd.refl _ _).set1 47 _
 have d4:∀ {k:Nat} {o:Obj},w.heap.size≤k→k≠g→w6.heap[k]? = some o→(wE.setCell ⟨g,47,none⟩ v').heap[k]? = some o:=fun J hg ho=>uG.old (uE.old ho (fun e=>by have:=l5 _ e;omega)) hg
 have A7:=qb (d4 k2 (fun e=>f8 e.symm) (qa A6))
 have B7:=qb (d4 k3 (fun e=>f9 e.symm) (qa B6))
 have E7:=qb (d4 h8 (fun e=>d1 e.symm) (qa E6))
 have d6:=uE.old (qa P6).at_ (fun e=>by
  obtain⟨j6,hc⟩:=qai (qa P6).live g e;exact qao (qa P6).at_ hc (by decide) rfl)
 have k1:wE.frozen? ⟨g,47,none⟩=false:=qv d6 47
 have g8:wE.cell? ⟨g,47,none⟩=some lv:=uE.cell a6 (fun e=>by
  obtain⟨j6,hc⟩:=qai (qa P6).live g e;exact qao (qa P6).at_ hc (by decide) rfl)
 have U7:=qb ((qa U6).trans c7.2)
 have P7:=qb c7.1
 have e0:=qb c7.2.size
 have m5:=qb (qa U6).size
 have a7:=qb (z6 (qa B6))
 have m9:=qb d3
 rw[d3] at A7 B7 E7 U7 P7 e0
 clear Y d2 b4 c7 uE uG d4 d6 a6 d0 A6 B6 E6 HN
 rw[d3]
 clear d3
 go_upto_region 15 with (with_reducible first|(first|refine' qw1 (qg ?_) ?_|refine' qw2 (qg ?_) ?_|refine' qw3 (qg ?_) ?_);rotate_left|refine' qw4 (qg ?_)|refine' qw5 (qg ?_)|rfl|apply qn)
 clear g8 k1
 generalize l8:wE.setCell ⟨g,47,none⟩ (.slice a' (c2.xs.length+1) g9)=w7 at A7 B7 E7 U7 P7 e0 ⊢
 clear l8
 have dE:w7.cell? ⟨E,0,none⟩=some (.int .u64 c.k.nextOwn):=by rw[qh (qa E7),qa HK];rfl
 have rA:zm w7 A 0 32=some H.toArray:=qad (qa A7) 32 (by rw[List.size_toArray,a8])
 obtain⟨m,hm⟩:∃m,m=qev c n hv ex:=⟨_,rfl⟩
 have i7:m.hash.length=32:=by rw[hm];show hv.toList.length=32;simp
 have k8:∀W:World,(qkt #[(0,.int .i64 3),(2,.int .u64 c.k.nextOwn),(3,.int .u64 n),(4,.agg H.toArray),(5,.int .i64 ex)]).run Tryz.prog W = .ok (.agg m.cells.toArray) W:=fun W=>by
  rw[qq1,if_pos a8,hm,qa g4];rfl
 obtain⟨c3,b5⟩:∃c3:Ch,c3=c.offered n hv ex:=⟨_,rfl⟩
 have i5:({c2 with xs:=c2.xs++[qe5 c n hv ex]} : Ch)=c3:=by
  rw[b5,qa g3,qa a4,qa j3];rfl
 have f6:=qa P7
 rw[i5] at f6
 have b6:=qqm g (Fr S w6 w7) c3 m i7 w7 ⟨_,_,_,f6⟩ (by rw[b5];exact d7.1)
 have f7:c3.s.ch=c.s.ch:=by rw[b5];rfl
 rw[f7] at b6
 have m8:=qb f7
 have HM:=qb hm
 have j2:=qb b5
 clear f6 P7 hm b5 i5 f7
 go_wp2_with (with_reducible first|(first|refine' tw1 (qg ?_) ?_|refine' tw2 (qg ?_) ?_);rotate_left|refine' tw3 (qg ?_)|rfl|apply tn|refine' tw4 ?_)
 refine b6.mono ?_
 rintro e w8 ⟨rfl,z,u8⟩
 have f2:=u8.old (qa B7) (fun J=>by
  rcases J with J | J
  ·have:=c6 _ J;omega
  ·have:=qa a7;omega)
 have g0:(m.on c.s.ch).hash.length=32:=i7
 have T:=qlm f2 g0
 have l:=qk5 f2 g0
 have Z:=qb l
 have u9:Upd (· = B) w8 (w8.setCells B 0 (m.on c.s.ch).cells):=(Upd.refl _ _).setCells 0 _
 have HS:=qb (And.intro z (And.intro u8 u9))
 clear f2 l z u8 u9 dE rA k8 b6
 go_wp2_with (with_reducible first|(first|refine' tw1 (qg ?_) ?_|refine' tw2 (qg ?_) ?_);rotate_left|refine' tw3 (qg ?_)|rfl|apply tn|refine' tw4 ?_)
 refine bodyPost_ret (qq rfl _ _ B _ _ _ _ rfl (qa Z) Tryz.underlying71 rfl (by rw[List.size_toArray,MsgV.len _ g0];exact Tryz.infoMsg)) rfl ?_
 obtain⟨z,u8,u9⟩:=qa HS
 have m6:=qa m5
 have n5:=(qa U7).size
 have n6:=u8.size
 have j1:=u9.size
 have n0:=qa e0
 rw[qa HO,←qa HM]
 refine⟨rfl,?_,((qa U7).then u8 (fun i hi e=> ?_)).then u9 (fun i hi e=>by omega)⟩
 ·obtain⟨p,q,r,hp⟩:=z;have l6:=hp.upd u9 (fun k J e=>by
   rcases J with (J | J) | J
   ·have:=c6 k J;omega
   ·have:=qa a7;omega
   ·have:=qa a7;omega)
  refine⟨p,q,r,?_⟩;rw[←qa j2];refine l6.wider (fun k J=> ?_) (fun k J=> ?_)
  ·rcases J with (J | J) | J
   ·exact .inl J
   ·exact .inr ⟨by omega,by omega⟩
   ·exact .inr ⟨by omega,by omega⟩
  ·rcases J with J | J
   ·have:=c6 k J;omega
   ·exact J.2
 ·rcases e with e | e
  ·exact e
  ·omega
end Go.Proofs.YthnohmjbbeahmaaGreatDoor
