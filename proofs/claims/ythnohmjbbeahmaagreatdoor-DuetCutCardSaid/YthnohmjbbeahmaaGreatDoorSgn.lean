/-
  Sign.
-/
import Derived.Test.YthnohmjbbeahmaaGreatDoorMbi
import Derived.Test.YthnohmjbbeahmaaGreatDoorMca
set_option linter.unusedVariables false
set_option linter.unusedSimpArgs false
namespace Go.Proofs.YthnohmjbbeahmaaGreatDoor
open Go.RowKit
def Plan.pre:List Nat→Plan→Plan
 | [],p=>p
 | i::l,p=> .step i (Plan.pre l p)
attribute [local go_sem ↓ high] qab qan qar qaw zy zz z7 qaa qqb
attribute [local go_sem] qcr qde qdn qg2 zb qb2 qcb qci qbi zcc
def qa0(c:Ch):Int:=if c.k.awaits=true then 5 else if zv 1 c.xs=false then 5 else if c.k.signed=65535 then 2 else 0
def Ch.signing(c:Ch):Ch:= {c.goOn 1 with k:= {(c.goOn 1).k with signed:=c.k.signed+1,awaits:=true,revoked:=false}}
noncomputable def qbb(c:Ch):MsgV:=⟨6,0,0,0,zx false c.s.key c.s.ch (c.k.signed+1) c.signing.loc c.signing.rem c.signing.xs,0,c.k.signed+1⟩
def Ch.turned(c:Ch):Ch:= {c with last:=c.news,news:=[]}
noncomputable def Ch.sign(c:Ch):Ch × MsgV × Int:=if qa0 c=0 then ((c.signing.say (qbb c)).turned,(qbb c).on c.s.ch,0) else (c,MsgV.zero,qa0 c)
theorem ql6{c:Ch}{e:Int}(h:qa0 c=e)(n:e≠0):c.sign=(c,MsgV.zero,e):=by unfold Ch.sign;rw[h,if_neg n]
theorem qha(l:List Live):∀c:Ch,(l.foldl qbn c).k=c.k∧(l.foldl qbn c).s=c.s∧(l.foldl qbn c).news=c.news∧(l.foldl qbn c).last=c.last∧(l.foldl qbn c).shelf=c.shelf:=by
 induction l with
 | nil=>intro c;exact⟨rfl,rfl,rfl,rfl,rfl⟩
 | cons x l t =>
  intro c;rw[List.foldl_cons];obtain⟨a,b,d,e,f⟩:=t (qbn c x);have q:(qbn c x).k=c.k∧(qbn c x).s=c.s∧(qbn c x).news=c.news∧(qbn c x).last=c.last∧(qbn c x).shelf=c.shelf:=by
   unfold qbn;split
   ·unfold Ch.give;split<;>exact⟨rfl,rfl,rfl,rfl,rfl⟩
   ·exact⟨rfl,rfl,rfl,rfl,rfl⟩
  obtain⟨g,i,m,o,f'⟩:=q;exact⟨a.trans g,b.trans i,d.trans m,e.trans o,f.trans f'⟩
theorem qsb(c:Ch)(ev:Int):(c.goOn ev).k=c.k:=(qha _ c).1
theorem zil(c:Ch)(ev:Int):(c.goOn ev).s=c.s:=(qha _ c).2.1
theorem q70(c:Ch)(ev:Int):(c.goOn ev).news=c.news:=(qha _ c).2.2.1
theorem ChP.turn{w:World}{g:Nat}{S:Nat→Prop}{c:Ch}{q nv t:Value}(h:ChP w g S c q nv t):ChP ((w.setCell ⟨g,627,none⟩ nv).setCell ⟨g,626,none⟩ qcg) g S c.turned q qcg nv:=by
 have u:Upd (· = g) w ((w.setCell ⟨g,627,none⟩ nv).setCell ⟨g,626,none⟩ qcg):=((Upd.refl _ _).set1 627 _).set1 626 _;have x:∀ {T:TypeId} {v:Value} {n:Nat} {xs:List Value},T≠106→w.ownsRow 0 T 38 v n xs→∀k,v.ownBlock=some k→¬k=g:=by
  intro T v n xs z E k l e;obtain⟨y,C⟩:=qal E k l;exact qap C h.at_ z e
 have o:=qah h.at_ 627 nv;rw[zdp c q nv t h.ok.s.seed h.ok.shelf c.news nv] at o;have i:=qah o 626 qcg;rw[qtn ({c with last:=c.news} : Ch) q nv nv h.ok.s.seed h.ok.shelf [] qcg] at i;refine⟨i,⟨h.ok.s,h.ok.signed,h.ok.heard,h.ok.nextOwn,h.ok.nextTheirs,h.ok.loc,h.ok.rem,h.ok.xs,h.ok.few,h.ok.shelf,?_,h.ok.news,?_⟩,?_,?_,?_,h.inG,h.inL,?_,h.inN,?_,fun k l=>Nat.lt_of_lt_of_le (h.lt k l) u.size⟩
 ·intro m D;cases D
 ·exact⟨Nat.zero_le _,h.ok.many.1⟩
 ·exact zg h.live u (x (by decide) h.live)
 ·exact World.ownsRow_nil _ _ _ _
 ·exact zg h.news u (x (by decide) h.news)
 ·intro k l;simp[qcg,Value.ownBlock] at l
 ·intro k l;simp[qcg,Value.ownBlock] at l
theorem zf8(m:MsgV)(ch:Int):(m.on ch).hash=m.hash:=rfl
theorem zbr(c:Ch)(ev:Int):(c.goOn ev).xs.length≤c.xs.length:=by
 unfold Ch.goOn qa8 qv;exact Nat.le_trans (List.length_filter_le _ _) (by rw[List.length_map];exact Nat.le_refl _)
set_option maxRecDepth 100000 in
set_option maxHeartbeats 1000000 in
theorem q9l(g:Nat)(S:Nat→Prop)(c:Ch)(w:World)(h:ChS w g S c)(hT:Tc w)(hS:ApC S)(l:c.s.key.size≤100000000)(l6:0≤c.s.ch∧c.s.ch<4294967296)(i1:c.news.length<1000000)(o9:c.xs.length≤16) :
  Calls Tryz.prog 36 #[.pointer (some ⟨g,0,none⟩)] w fun e w'=>e = .returned (.tuple #[.agg c.sign.2.1.cells.toArray,.int .i64 c.sign.2.2])∧ChS w' g (Fr S w w') c.sign.1∧Upd S w w':=by
 obtain⟨lv,nv,av,h⟩:=h
 go_enter Tryz.func36,Tryz.ntmps36
 go_upto_region 1 with fail
 have hB:=qbz w MsgV.zero qu
 have n1:qq w (w.alloc (.cells MsgV.zero.cells.toArray 71)):=(Upd.refl _ _).alloc _
 generalize w.alloc (.cells MsgV.zero.cells.toArray 71)=w1 at hB n1 ⊢
 obtain⟨B,g7⟩:∃B,B=w.heap.size:=⟨_,rfl⟩
 rw[←g7] at hB ⊢
 have o2:w.heap.size≤B:=by omega
 have i2:g≠B:=by have:=h.lt g h.inG;omega
 have c9:¬S B:=fun e=>by have:=h.lt B e;omega
 clear g7
 have h1:=h.new n1
 have a9:w1.cell? ⟨g,39,none⟩=some (.bool c.k.awaits):=h1.toR.awaits
 have g3:w1.cell? ⟨g,47,none⟩=some lv:=h1.toR.live
 have i9:qa0 c=if c.k.awaits=true then 5 else if zv 1 c.xs=false then 5 else if c.k.signed=65535 then 2 else 0:=rfl
 have o8:=h.ok.few
 have Z:=qp0 lv c.xs 1 (by omega) w1 (hT.new n1).glob h1.toI.lives
 obtain⟨la,n9,l8⟩:=qaq h.live
 have E:=qb i9
 have H0:=qb h
 have H1:=qb h1
 have HB:=qb hB
 have N1:=qb n1
 have g1:=qb (hT.new n1)
 have l9:=h.ok.signed
 have bad:∀(W:World) (e:Int),qq w1 W→qa0 c=e→e≠0 →
   stOk W B 0 38 MsgV.zero.cells.toArray=true∧MsB (W.setCells B 0 MsgV.zero.cells) B MsgV.zero∧c.sign=(c,MsgV.zero,e)∧ChS (W.setCells B 0 MsgV.zero.cells) g (Fr S w (W.setCells B 0 MsgV.zero.cells)) c∧Upd S w (W.setCells B 0 MsgV.zero.cells):=by
  intro W e nW hs he
  have hb:=hB.new nW
  have u:=qac (w:=W) (b:=B) MsgV.zero.cells
  exact⟨hb.stOk qu,hb.put qu,ql6 hs he,((h1.new nW).upd u (fun k l e=>by rw[e] at l;exact c9 l)).fr w,((n1.trans nW).mono (T:=S) (fun _ _ h=>h.elim)).then u (fun i hi e=>by omega)⟩
 have Y:=qb bad
 clear i9 h h1 hB n1 hT bad
 cases ha:c.k.awaits with
 | true =>
  rw[ha,if_pos rfl] at E;rw[ha] at a9;obtain⟨I,z,hE,hC,hU⟩:=qa Y w1 5 (Upd.refl _ _) (qa E) (by decide);have K:=qb z;have HE:=qb hE;have HC:=qb hC;have HU:=qb hU;clear z hE hC hU Z;go_wp2_with (with_reducible first|(first|refine' zi (qg ?_) ?_|refine' zj (qg ?_) ?_);rotate_left|refine' zk (qg ?_)|rfl|apply tn|refine' zl ?_);have z:=qa K;refine bodyPost_ret (qs rfl _ _ B _ _ _ _ rfl z.at_ Tryz.underlying71 rfl (by rw[z.agg];exact Tryz.infoMsg)) rfl ?_;rw[qa HE];exact⟨rfl,qa HC,qa HU⟩
 | false =>
  rw[ha,if_neg (by decide)] at E;rw[ha] at a9;rw[l8] at g3 Z;go_wp2_with (with_reducible first|(first|refine' zi (qg ?_) ?_|refine' zj (qg ?_) ?_);rotate_left|refine' zk (qg ?_)|rfl|apply tn|refine' zl ?_);refine Z.mono ?_;rintro e P ⟨rfl,n2⟩;clear Z a9 g3;cases hc:zv 1 c.xs with
  | false =>
   rw[hc,if_pos rfl] at E;obtain⟨I,z,hE,hC,hU⟩:=qa Y P 5 n2 (qa E) (by decide);have K:=qb z;have HE:=qb hE;have HC:=qb hC;have HU:=qb hU;clear z hE hC hU n2;go_wp2_with (with_reducible first|(first|refine' zi (qg ?_) ?_|refine' zj (qg ?_) ?_);rotate_left|refine' zk (qg ?_)|rfl|apply tn|refine' zl ?_);have z:=qa K;refine bodyPost_ret (qs rfl _ _ B _ _ _ _ rfl z.at_ Tryz.underlying71 rfl (by rw[z.agg];exact Tryz.infoMsg)) rfl ?_;rw[qa HE];exact⟨rfl,qa HC,qa HU⟩
  | true =>
   rw[hc,if_neg (by decide)] at E;have e5:P.cell? ⟨g,37,none⟩=some (.int .i64 c.k.signed):=((qa H1).new n2).toR.signed;by_cases d1:c.k.signed=65535
   ·rw[if_pos d1] at E;obtain⟨I,z,hE,hC,hU⟩:=qa Y P 2 n2 (qa E) (by decide);have K:=qb z;have HE:=qb hE;have HC:=qb hC;have HU:=qb hU;rw[d1] at e5;clear z hE hC hU n2 d1 l9;go_wp2_with (with_reducible first|(first|refine' zi (qg ?_) ?_|refine' zj (qg ?_) ?_);rotate_left|refine' zk (qg ?_)|rfl|apply tn|refine' zl ?_);have z:=qa K;refine bodyPost_ret (qs rfl _ _ B _ _ _ _ rfl z.at_ Tryz.underlying71 rfl (by rw[z.agg];exact Tryz.infoMsg)) rfl ?_;rw[qa HE];exact⟨rfl,qa HC,qa HU⟩
   ·rw[if_neg d1] at E;have c0:c.sign=((c.signing.say (qbb c)).turned,(qbb c).on c.s.ch,0):=by unfold Ch.sign;rw[if_pos (qa E)]
    have f8:=qb c0;have i3:=qn7 g S c 1 P ⟨lv,nv,av,(qa H1).new n2⟩ ((qa g1).new n2).glob;have N2:=qb n2;clear c0 Y n2;go_wp2_with (with_reducible first|(first|refine' zi (qg ?_) ?_|refine' zj (qg ?_) ?_);rotate_left|refine' zk (qg ?_)|rfl|apply tn|refine' zl ?_);refine i3.mono ?_;rintro e C ⟨rfl,⟨d3,j9,g2,h3⟩,u3⟩;obtain⟨c1,a7⟩:∃c1,c1=c.goOn 1:=⟨_,rfl⟩;have f4:c1.k=c.k:=by rw[a7];exact qsb c 1
    have i8:c1.s=c.s:=by rw[a7];exact zil c 1
    have i6:c1.news=c.news:=by rw[a7];exact q70 c 1
    rw[←a7] at h3;have e5:C.cell? ⟨g,37,none⟩=some (.int .i64 c.k.signed):=by rw[←f4];exact h3.toR.signed
    have k5:C.frozen? ⟨g,37,none⟩=false:=qw h3.at_ 37;have m0:IntKind.i64.wrap (c.k.signed+1)=c.k.signed+1:=qk2 (by omega) (by omega);have h4:=h3.putSigned (c.k.signed+1) (by omega);have u4:=qjv C g 37 (.int .i64 (c.k.signed+1));have a9:(C.setCell ⟨g,37,none⟩ (.int .i64 (c.k.signed+1))).cell? ⟨g,39,none⟩=some (.bool false):=by
     have:=h4.toR.awaits;rw[show (({c1 with k:= {c1.k with signed:=c.k.signed+1}} : Ch).v d3 j9 g2).k.awaits=c1.k.awaits from rfl,f4,ha] at this;exact this
    have k6:(C.setCell ⟨g,37,none⟩ (.int .i64 (c.k.signed+1))).frozen? ⟨g,39,none⟩=false:=qw h4.at_ 39;have h5:=h4.putAwaits true;have u5:=qjv (C.setCell ⟨g,37,none⟩ (.int .i64 (c.k.signed+1))) g 39 (.bool true);have k4:((C.setCell ⟨g,37,none⟩ (.int .i64 (c.k.signed+1))).setCell ⟨g,39,none⟩ (.bool true)).cell? ⟨g,44,none⟩=some (.bool c1.k.revoked):=h5.toR.revoked;have k7:((C.setCell ⟨g,37,none⟩ (.int .i64 (c.k.signed+1))).setCell ⟨g,39,none⟩ (.bool true)).frozen? ⟨g,44,none⟩=false:=qw h5.at_ 44;have h6:=h5.putRevoked false;have u6:=qjv ((C.setCell ⟨g,37,none⟩ (.int .i64 (c.k.signed+1))).setCell ⟨g,39,none⟩ (.bool true)) g 44 (.bool false);have N:c.signing = {c1 with k:= {c1.k with signed:=c.k.signed+1,awaits:=true,revoked:=false}} := by unfold Ch.signing;rw[a7]
    rw[←N] at h6;have c7:Upd (· = g) C (((C.setCell ⟨g,37,none⟩ (.int .i64 (c.k.signed+1))).setCell ⟨g,39,none⟩ (.bool true)).setCell ⟨g,44,none⟩ (.bool false)):=(u4.trans u5).trans u6;have U6:=qb (((((qa N1).trans (qa N2)).mono (T:=S) (fun _ _ h=>h.elim)).trans u3).trans (c7.mono (fun k _ e=>by rw[e];exact(qa H0).inG)));have h8:=qb ((((qa HB).new (qa N2)).upd u3 c9).upd c7 (fun e=>i2 e.symm));have g0:=qb (And.intro u3.size c7.size);have j4:=qb ((qa N1).size);have j5:=qb ((qa N2).size);have e2:=qb ((((qa g1).new (qa N2)).upd u3 hS).upd (c7.mono (T:=S) (fun k _ e=>by rw[e];exact(qa H0).inG)) hS);have H6:=qb h6;have c3:c.signing.s=c.s:=by rw[N];exact i8
    have j1:c.signing.news=c.news:=by rw[N];exact i6
    have d2:c.signing.k.signed=c.k.signed+1:=by rw[N]
    have e1:c.signing.xs.length≤19:=by have:=zbr c 1;show (c.goOn 1).xs.length≤19;omega
    clear h3 h4 h5 h6 u3 u4 u5 u6 c7 N;go_upto_region 8 with (with_reducible first|(first|refine' zi (qg ?_) ?_|refine' zj (qg ?_) ?_);rotate_left|refine' zk (qg ?_)|rfl|apply tn|refine' zl ?_);clear e5 k5 a9 k6 k4 k7 i3 m0;generalize ((C.setCell ⟨g,37,none⟩ (.int .i64 (c.k.signed+1))).setCell ⟨g,39,none⟩ (.bool true)).setCell ⟨g,44,none⟩ (.bool false)=x at U6 h8 g0 e2 H6 ⊢;obtain⟨q,f2⟩:∃q,q=c.signing:=⟨_,rfl⟩;have j0:qbb c=⟨6,0,0,0,zx false c.s.key c.s.ch (c.k.signed+1) q.loc q.rem q.xs,0,c.k.signed+1⟩:=by rw[f2];rfl
    rw[←f2] at H6 c3 j1 d2 f8 e1;have f9:=qb j0;clear a7 f4 i8 i6 j0 f2 c1;have hP:=qa H6;have j3:q.xs.length≤1000000:=hP.ok.few;obtain⟨j6,c5,d9⟩:=qaq hP.live;have i7:=hP.ok.xs;have g5:x.drew.cell? ⟨g,35,none⟩=some (.string c.s.key):=by rw[←c3];exact hP.key
    have d0:x.drew.cell? ⟨g,0,none⟩=some (.int .u32 c.s.ch):=by rw[←c3];exact hP.toR.ch
    have c8:x.drew.cell? ⟨g,37,none⟩=some (.int .i64 (c.k.signed+1)):=by rw[←d2];exact hP.toR.signed
    have dB:zu x.drew g 45 2=some #[.int .u64 q.loc,.int .u64 q.rem]:=hP.base;have e6:x.drew.cell? ⟨g,47,none⟩=some d3:=hP.toR.live;rw[d9] at e6;have f5:=fun W (n:qq x W)=>q0z false q.loc q.rem d3 q.xs e1 W ((qa e2).new n).spans (hP.toI.lives.new n)
    rw[d9] at f5;have o6:q.s.key.size≤100000000:=by rw[c3];exact l
    have j2:=fun W (n:qq x W) V (hV:ViewO false q.loc q.rem q.xs W V)=>qv7 false q.loc q.rem V q.xs c.s.key c.s.ch (c.k.signed+1) j3 W ((qa e2).new n).tabs hV i7 l l6 (by omega) hP.ok.loc hP.ok.rem
    have U:=qgz false c.s.key c.s.ch (c.k.signed+1) q.loc q.rem q.xs;have f7:=qb f5;have e3:=qb j2;have c4:∀W,qq x.drew W→W.cell? ⟨g,35,none⟩=some (.string c.s.key)∧W.cell? ⟨g,0,none⟩=some (.int .u32 c.s.ch)∧W.cell? ⟨g,37,none⟩=some (.int .i64 (c.k.signed+1))∧zu W g 45 2=some #[.int .u64 q.loc,.int .u64 q.rem]∧W.cell? ⟨g,47,none⟩=some (.slice j6 q.xs.length c5):=by
     intro W n;have l4:=hP.new (((Upd.refl (fun _=>False) x).drew).trans n);exact⟨n.cell g5 (fun h=>h),n.cell d0 (fun h=>h),n.cell c8 (fun h=>h),l4.base,n.cell e6 (fun h=>h)⟩
    have L:=qb c4;have g8:=c4 x.drew (Upd.refl _ _);clear hP f5 j2 c4 g5 d0 c8 dB e6;generalize zx false c.s.key c.s.ch (c.k.signed+1) q.loc q.rem q.xs=T at *
    go_cut [4] from 48 to 72 (fun hv wx=>∃H,hv = .pointer (some ⟨H,0,none⟩)∧x.heap.size≤H∧HsB wx H T∧qq x wx)
    case first =>
     refine qcq (fun w'=>w'.cell? ⟨g,35,none⟩=some (.string c.s.key)∧w'.cell? ⟨g,0,none⟩=some (.int .u32 c.s.ch)∧w'.cell? ⟨g,37,none⟩=some (.int .i64 (c.k.signed+1))∧zu w' g 45 2=some #[.int .u64 q.loc,.int .u64 q.rem]∧w'.cell? ⟨g,47,none⟩=some (.slice j6 q.xs.length c5)) [4,9,14,18,22]
      (Plan.pre [0,1,2,3,4,5,6,7,8,9,10,11,12,13,14,15,16,17,18,19,20,21,22] (.fork (.step 23 (.fork (.of [24,25,26]) (.of [25,24,26]))) (.of [25,23,24,26]))) (by kernel_rfl) (by kernel_rfl) g8 ?_
     simp only[Plan.of,Plan.pre];go_wp2_with (with_reducible first|(first|refine' qw1 (qg ?_) ?_|refine' qw2 (qg ?_) ?_|refine' qw3 (qg ?_) ?_);rotate_left|refine' qw4 (qg ?_)|refine' qw5 (qg ?_)|rfl|apply qn);have nd:qq x x.drew:=(Upd.refl _ _).drew;refine qf ?_ ?_
     ·go_wp2_with (with_reducible first|(first|refine' qw1 (qg ?_) ?_|refine' qw2 (qg ?_) ?_|refine' qw3 (qg ?_) ?_);rotate_left|refine' qw4 (qg ?_)|refine' qw5 (qg ?_)|rfl|apply qn);refine(qa f7 x.drew nd).mono ?_;rintro e wa ⟨V,rfl,na,hV⟩;go_wp2_with (with_reducible first|(first|refine' qw1 (qg ?_) ?_|refine' qw2 (qg ?_) ?_|refine' qw3 (qg ?_) ?_);rotate_left|refine' qw4 (qg ?_)|refine' qw5 (qg ?_)|rfl|apply qn);refine⟨qa L _ na,?_⟩;refine qf ?_ ?_
      ·go_wp2_with (with_reducible first|(first|refine' qw1 (qg ?_) ?_|refine' qw2 (qg ?_) ?_|refine' qw3 (qg ?_) ?_);rotate_left|refine' qw4 (qg ?_)|refine' qw5 (qg ?_)|rfl|apply qn);refine(qa e3 wa (nd.trans na) V hV).mono ?_;rintro e wb ⟨rfl,nb⟩;obtain⟨I,z,nF⟩:=qsl wb T U;have K:=qb z;have NF:=qb (((nd.trans na).trans nb).trans nF);have o:qq wb (wb.alloc (.cells (qy qaj).toArray 33)):=(Upd.refl _ _).alloc _;have hK:=qb (qa L _ ((na.trans nb).trans o));have O:x.heap.size≤wb.heap.size:=((nd.trans na).trans nb).size;clear z nF o nb;go_wp2_with (with_reducible first|(first|refine' qw1 (qg ?_) ?_|refine' qw2 (qg ?_) ?_|refine' qw3 (qg ?_) ?_);rotate_left|refine' qw4 (qg ?_)|refine' qw5 (qg ?_)|rfl|apply qn);refine⟨qa hK,?_⟩;go_wp2_with (with_reducible first|(first|refine' qw1 (qg ?_) ?_|refine' qw2 (qg ?_) ?_|refine' qw3 (qg ?_) ?_);rotate_left|refine' qw4 (qg ?_)|refine' qw5 (qg ?_)|rfl|apply qn);go_meet
       case rel=>exact⟨_,rfl,O,qa K,qa NF⟩
      ·have o:qq wa (wa.alloc (.cells (qy qaj).toArray 33)):=(Upd.refl _ _).alloc _;have t:=qck wa qaj qu;have O:x.heap.size≤wa.heap.size:=(nd.trans na).size;go_wp2_with (with_reducible first|(first|refine' qw1 (qg ?_) ?_|refine' qw2 (qg ?_) ?_|refine' qw3 (qg ?_) ?_);rotate_left|refine' qw4 (qg ?_)|refine' qw5 (qg ?_)|rfl|apply qn);refine⟨qa L _ (na.trans o),?_⟩;generalize wa.alloc (.cells (qy qaj).toArray 33)=wc at o t ⊢;generalize wa.heap.size=H at t O ⊢;have a5:=qb t;clear t;go_wp2_with (with_reducible first|(first|refine' qw1 (qg ?_) ?_|refine' qw2 (qg ?_) ?_|refine' qw3 (qg ?_) ?_);rotate_left|refine' qw4 (qg ?_)|refine' qw5 (qg ?_)|rfl|apply qn);refine(qa e3 wc ((nd.trans na).trans o) V (hV.new o)).mono ?_;rintro e wb ⟨rfl,nb⟩;have F:=(qa a5).new nb;have I:=F.stOk T U;have K:=qb (F.put T U);have NF:=qb ((((nd.trans na).trans o).trans nb).then (qac (w:=wb) (b:=H) (qy T)) (fun i hi e=>by omega));clear F nb;go_wp2_with (with_reducible first|(first|refine' qw1 (qg ?_) ?_|refine' qw2 (qg ?_) ?_|refine' qw3 (qg ?_) ?_);rotate_left|refine' qw4 (qg ?_)|refine' qw5 (qg ?_)|rfl|apply qn);go_meet
       case rel=>exact⟨_,rfl,O,qa K,qa NF⟩
     ·have o:qq x.drew (x.drew.alloc (.cells (qy qaj).toArray 33)):=(Upd.refl _ _).alloc _;have J:qq x.drew (x.alloc (.cells (qy qaj).toArray 33)).drew:=o;have t:HsB (x.alloc (.cells (qy qaj).toArray 33)).drew x.heap.size qaj:=(qck x qaj qu).new ((Upd.refl _ _).drew);have O:x.heap.size≤x.heap.size:=Nat.le_refl _;go_wp2_with (with_reducible first|(first|refine' qw1 (qg ?_) ?_|refine' qw2 (qg ?_) ?_|refine' qw3 (qg ?_) ?_);rotate_left|refine' qw4 (qg ?_)|refine' qw5 (qg ?_)|rfl|apply qn);refine⟨qa L _ J,?_⟩;generalize (x.alloc (.cells (qy qaj).toArray 33)).drew=wc at J t ⊢;generalize hH:x.heap.size=H at t ⊢;rw[hH] at O;have a5:=qb t;clear t o;go_wp2_with (with_reducible first|(first|refine' qw1 (qg ?_) ?_|refine' qw2 (qg ?_) ?_|refine' qw3 (qg ?_) ?_);rotate_left|refine' qw4 (qg ?_)|refine' qw5 (qg ?_)|rfl|apply qn);refine(qa f7 wc (nd.trans J)).mono ?_;rintro e wa ⟨V,rfl,na,hV⟩;have F:=(qa a5).new na;go_wp2_with (with_reducible first|(first|refine' qw1 (qg ?_) ?_|refine' qw2 (qg ?_) ?_|refine' qw3 (qg ?_) ?_);rotate_left|refine' qw4 (qg ?_)|refine' qw5 (qg ?_)|rfl|apply qn);refine⟨qa L _ (J.trans na),?_⟩;have k1:=qb F;clear F;go_wp2_with (with_reducible first|(first|refine' qw1 (qg ?_) ?_|refine' qw2 (qg ?_) ?_|refine' qw3 (qg ?_) ?_);rotate_left|refine' qw4 (qg ?_)|refine' qw5 (qg ?_)|rfl|apply qn);refine(qa e3 wa ((nd.trans J).trans na) V hV).mono ?_;rintro e wb ⟨rfl,nb⟩;have f1:=(qa k1).new nb;have I:=f1.stOk T U;have K:=qb (f1.put T U);have NF:=qb ((((nd.trans J).trans na).trans nb).then (qac (w:=wb) (b:=H) (qy T)) (fun i hi e=>by omega))
      clear f1 nb;go_wp2_with (with_reducible first|(first|refine' qw1 (qg ?_) ?_|refine' qw2 (qg ?_) ?_|refine' qw3 (qg ?_) ?_);rotate_left|refine' qw4 (qg ?_)|refine' qw5 (qg ?_)|rfl|apply qn);go_meet
      case rel=>exact⟨_,rfl,Nat.le_of_eq hH,qa K,qa NF⟩
    case rest =>
     obtain⟨H,rfl,hH,e9,n7⟩:=hcut;obtain⟨y,rfl⟩:∃y:World,y=wc:=⟨_,rfl⟩;clear g8;have b5:=(qa H6).new n7;have U7:=qb ((qa U6).trans (n7.mono (T:=S) (fun _ _ h=>h.elim)));have h9:=qb ((qa h8).new n7);have m3:=qb n7.size;have c8:y.drew.cell? ⟨g,37,none⟩=some (.int .i64 (c.k.signed+1)):=by rw[←d2];exact b5.toR.signed
     have dH:zu y.drew H 0 32=some (qy T).toArray:=e9.row;have l5:=fun W=>q2m 6 (c.k.signed+1) T U W
     rw[←qa f9] at l5;have e0:(qbb c).hash.length=32:=by rw[qa f9];exact U
     have f3:q.news.length<1000000:=by rw[j1];exact i1
     have b9:=fun W (n:qq y W)=>qrf g (Fr S P C) q (qbb c) e0 W ⟨d3,j9,g2,b5.new n⟩ f3
     rw[c3] at b9;have b8:((qbb c).on c.s.ch).hash.length=32:=by rw[zf8];exact e0
     have d5:=qb b9;have e8:y.drew.cell? ⟨g,37,none⟩=some (.int .i64 (c.k.signed+1))∧zu y.drew H 0 32=some (qy T).toArray:=⟨c8,dH⟩;have o5:g<y.heap.size:=qad b5.at_;have i5:∀k,Fr S P C k→k<y.heap.size:=b5.lt;clear b5 b9;generalize qbb c=m at *
     generalize o7:m.on c.s.ch=mo at *
     go_upto_region 9 with fail
     go_cut [5] from 73 to 81 (fun hv wx=>∃M,hv = .pointer (some ⟨M,0,none⟩)∧y.heap.size≤M∧MsB wx M mo∧ChS wx g (Fr (Fr S P C) y wx) (q.say m)∧Upd (Fr S P C) y wx)
     case first =>
      refine qcq (fun w'=>w'.cell? ⟨g,37,none⟩=some (.int .i64 (c.k.signed+1))∧zu w' H 0 32=some (qy T).toArray) [5,6] (.fork (Plan.pre [0,1,2,3,4,5,6,7] (.of [8,9,10])) (Plan.pre [9,0,1,2,3,4,5,6,7] (.of [8,10]))) (by kernel_rfl) (by kernel_rfl) e8 ?_;simp only[Plan.of,Plan.pre];have m6:qq y y.drew:=(Upd.refl _ _).drew;have k8:∀k,Fr S P C k→k≠H:=fun k l e=>by
       have h6:=(qa H6).lt k l;omega
      refine qf ?_ ?_
      ·go_wp2_with (with_reducible first|(first|refine' qw1 (qg ?_) ?_|refine' qw2 (qg ?_) ?_|refine' qw3 (qg ?_) ?_);rotate_left|refine' qw4 (qg ?_)|refine' qw5 (qg ?_)|rfl|apply qn);refine(qa d5 y.drew m6).mono ?_;rintro e wa ⟨rfl,⟨m5,m7,k3,f0⟩,ua⟩;have d4:Upd (Fr S P C) y wa:=ua.ofDrew;have g9:=e9.upd d4 (fun l=>k8 H l rfl);have b7:ChS wa g (Fr (Fr S P C) y wa) (q.say m):=⟨m5,m7,k3,f0⟩;have a6:wa.cell? ⟨g,37,none⟩=some (.int .i64 (c.k.signed+1)):=by rw[←d2];exact f0.toR.signed
       obtain⟨I,z,nF⟩:=qgs wa mo b8;have o:qq wa (wa.alloc (.cells MsgV.zero.cells.toArray 71)):=(Upd.refl _ _).alloc _;have k9:=qb (And.intro (o.cell a6 (fun h=>h)) (g9.new o).row);have K:=qb z;have HC:=qb ((b7.new nF).grow nF.size);have HU:=qb (d4.trans (nF.mono (T:=Fr S P C) (fun _ _ h=>h.elim)));have O:y.heap.size≤wa.heap.size:=d4.size;clear z nF o b7 f0 ua d4 a6 g9;go_wp2_with (with_reducible first|(first|refine' qw1 (qg ?_) ?_|refine' qw2 (qg ?_) ?_|refine' qw3 (qg ?_) ?_);rotate_left|refine' qw4 (qg ?_)|refine' qw5 (qg ?_)|rfl|apply qn);refine⟨qa k9,?_⟩;go_wp2_with (with_reducible first|(first|refine' qw1 (qg ?_) ?_|refine' qw2 (qg ?_) ?_|refine' qw3 (qg ?_) ?_);rotate_left|refine' qw4 (qg ?_)|refine' qw5 (qg ?_)|rfl|apply qn);go_meet
       case rel=>exact⟨_,rfl,O,qa K,qa HC,qa HU⟩
      ·have o:qq y (y.alloc (.cells MsgV.zero.cells.toArray 71)).drew:=((Upd.refl _ _).alloc _).drew;have t:MsB (y.alloc (.cells MsgV.zero.cells.toArray 71)).drew y.heap.size MsgV.zero:=(qbz y MsgV.zero qu).new ((Upd.refl _ _).drew);have b4:=e9.new o;have a6:=o.cell (p:=⟨g,37,none⟩) e8.1 (fun h=>h);go_wp2_with (with_reducible first|(first|refine' qw1 (qg ?_) ?_|refine' qw2 (qg ?_) ?_|refine' qw3 (qg ?_) ?_);rotate_left|refine' qw4 (qg ?_)|refine' qw5 (qg ?_)|rfl|apply qn);refine⟨⟨a6,b4.row⟩,?_⟩;have b3:=a6;have e7:=b4.row;generalize (y.alloc (.cells MsgV.zero.cells.toArray 71)).drew=wc at o t b4 b3 e7 ⊢;generalize l3:y.heap.size=M at t ⊢;have a5:=qb t;have o0:=qb b4;have o4:wc.cell? ⟨g,37,none⟩=some (.int .i64 (c.k.signed+1))∧zu wc H 0 32=some (qy T).toArray:=⟨b3,e7⟩;clear t b4 a6 b3 e7 e8;go_wp2_with (with_reducible first|(first|refine' qw1 (qg ?_) ?_|refine' qw2 (qg ?_) ?_|refine' qw3 (qg ?_) ?_);rotate_left|refine' qw4 (qg ?_)|refine' qw5 (qg ?_)|rfl|apply qn);refine(qa d5 wc o).mono ?_;rintro e wa ⟨rfl,b7,ua⟩;have h0:∀k,Fr S P C k→¬k=M:=fun k l e=>by
        have:=i5 k l;omega
       have n3:=(qa a5).lt;have F:=(qa a5).upd ua (fun l=>h0 M l rfl);have I:=F.stOk b8;have um:=qac (w:=wa) (b:=M) mo.cells;have K:=qb (F.put b8);have m4:=o.size;have d7:ChS (wa.setCells M 0 mo.cells) g (Fr (Fr S P C) wc wa) (q.say m):=b7.upd um (fun k l e=>by
        rcases l with l | l
        ·exact h0 k l e
        ·omega)
       have d8:ChS (wa.setCells M 0 mo.cells) g (Fr (Fr S P C) wc (wa.setCells M 0 mo.cells)) (q.say m):=d7.grow um.size;have HC:=qb (d8.later m4);clear d7 d8;have HU:=qb (((o.mono (T:=Fr S P C) (fun _ _ h=>h.elim)).trans ua).then um (fun i hi e=>by omega));clear F b7 ua um;go_wp2_with (with_reducible first|(first|refine' qw1 (qg ?_) ?_|refine' qw2 (qg ?_) ?_|refine' qw3 (qg ?_) ?_);rotate_left|refine' qw4 (qg ?_)|refine' qw5 (qg ?_)|rfl|apply qn);go_meet
       case rel=>exact⟨_,rfl,Nat.le_of_eq l3,qa K,qa HC,qa HU⟩
     case rest =>
      obtain⟨M,rfl,hM,h2,⟨j7,X,e4,D⟩,u8⟩:=hcut;obtain⟨R,rfl⟩:∃R:World,R=wc:=⟨_,rfl⟩;have g4:R.cell? ⟨g,626,none⟩=some X:=(qh D.at_ 626).trans (qsa _ j7 X e4 D.ok.s.seed D.ok.shelf);have m8:R.cell? ⟨g,627,none⟩=some e4:=(qh D.at_ 627).trans (qr9 _ j7 X e4 D.ok.s.seed D.ok.shelf);have m9:R.frozen? ⟨g,626,none⟩=false:=qw D.at_ 626;have n0:R.frozen? ⟨g,627,none⟩=false:=qw D.at_ 627;have g6:=D.turn;obtain⟨j8,c6,a4⟩:=qaq D.news;have a8:Upd (· = g) R ((R.setCell ⟨g,627,none⟩ X).setCell ⟨g,626,none⟩ qcg):=((Upd.refl _ _).set1 627 _).set1 626 _;have l7:M≠g:=by omega
      have d6:=h2.upd a8 l7;have i0:=(qa h9).upd u8 (fun l=>by
       rcases l with l | l
       ·exact c9 l
       ·have:=(qa HB).lt;have:=qa j5;omega)
      have b6:=i0.upd a8 (fun e=>i2 e.symm);have I:=b6.stOk b8;have rM:=d6.row;have K:=qb (b6.put b8);have uB:=qac (w:=(R.setCell ⟨g,627,none⟩ X).setCell ⟨g,626,none⟩ qcg) (b:=B) mo.cells;have o3:B<y.heap.size:=(qa h9).lt;have hz:=qa g0;have n6:=qa j5;have m2:=qa j4;have n8:=qa m3;have o1:=(qa HB).lt;have i4:∀k,Fr (Fr S P C) y R k→Fr S w R k:=fun k l=>by
       rcases l with (l | l) | l
       ·exact .inl l
       ·exact .inr ⟨by omega,by have:=u8.size;omega⟩
       ·exact .inr ⟨by omega,l.2⟩
      have h7:=g6.upd uB (fun k l e=>by
       rcases l with (l | l) | l
       ·rw[e] at l;exact c9 l
       ·omega
       ·omega)
      have HC:=qb (h7.wider (T:=Fr S w (((R.setCell ⟨g,627,none⟩ X).setCell ⟨g,626,none⟩ qcg).setCells B 0 mo.cells)) (fun k l=>by
       rcases i4 k l with h | h
       ·exact .inl h
       ·exact .inr ⟨h.1,by have:=a8.size;have:=uB.size;omega⟩) (fun k l=>by
       rcases l with l | l
       ·have:=(qa H0).lt k l;have:=u8.size;have:=a8.size;have:=uB.size;omega
       ·exact l.2))
      have n5:=(qa U7).size;have v8:Upd S w R:=(qa U7).then u8 (fun i hi l=>by
       rcases l with l | l
       ·exact l
       ·omega)
      have k0:Upd S w ((R.setCell ⟨g,627,none⟩ X).setCell ⟨g,626,none⟩ qcg):=v8.then a8 (fun i hi e=>by rw[e];exact(qa H0).inG);have HU:=qb (k0.then uB (fun i hi e=>by omega));rw[a4] at g4;have n4:=qb a4;rw[a4] at K HC HU I rM;unfold qcg at K HU I rM;have f6:ChS ((((R.setCell ⟨g,627,none⟩ (.slice j8 (q.say m).news.length c6)).setCell ⟨g,626,none⟩ (.slice none 0 0))).setCells B 0 mo.cells) g (Fr S w ((((R.setCell ⟨g,627,none⟩ (.slice j8 (q.say m).news.length c6)).setCell ⟨g,626,none⟩ (.slice none 0 0))).setCells B 0 mo.cells)) (q.say m).turned:=⟨_,_,_,qa HC⟩;have k2:=qb f6;clear f6 HC g6 a8 d6 i0 b6 uB h7 v8 k0 i4 D u8 h2 a4;go_wp2_with (with_reducible first|(first|refine' zi (qg ?_) ?_|refine' zj (qg ?_) ?_);rotate_left|refine' zk (qg ?_)|rfl|apply tn|refine' zl ?_);have z:=qa K;refine bodyPost_ret (qs rfl _ _ B _ _ _ _ rfl z.at_ Tryz.underlying71 rfl (by rw[z.agg];exact Tryz.infoMsg)) rfl ?_;rw[qa f8];exact⟨rfl,qa k2,qa HU⟩
theorem zd3(g:Nat)(S:Nat→Prop)(c:Ch)(w:World)(h:ChS w g S c)(q:Tb w)(o:Apart S)(t:c.s.key.size≤100000000)(l:0≤c.s.ch∧c.s.ch<4294967296)(i:c.news.length<1000000)(m:c.xs.length≤16) :
  Calls Tryz.prog 36 #[.pointer (some ⟨g,0,none⟩)] w fun e w'=>e = .returned (.tuple #[.agg c.sign.2.1.cells.toArray,.int .i64 c.sign.2.2])∧ChS w' g (Fr S w w') c.sign.1∧Upd S w w' :=
 q9l g S c w h q.c o.cc t l i m
end Go.Proofs.YthnohmjbbeahmaaGreatDoor
