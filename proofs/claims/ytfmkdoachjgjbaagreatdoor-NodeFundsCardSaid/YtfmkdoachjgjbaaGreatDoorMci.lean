/-
  node.Total, node.List.
-/
import Derived.Test.YtfmkdoachjgjbaaGreatDoorMch
import Derived.Deep.CutRange
import Derived.Test.YtfmkdoachjgjbaaGreatDoorMah
import Derived.Test.YtfmkdoachjgjbaaGreatDoorMcg
import Derived.MapKept
import Derived.Test.YtfmkdoachjgjbaaGreatDoorMbc
set_option maxRecDepth 100000
set_option maxHeartbeats 4000000
set_option linter.unusedVariables false
set_option linter.unusedSimpArgs false
namespace Go.Proofs.YtfmkdoachjgjbaaGreatDoor
section
open Go.RowKit
theorem qg7(N:NodeV)(m:N.shut.length=8)(i:Nat)(b:Bool)(h:N.swept[i]? = some b):N.cells[11+i]? = some (.bool b):=by
 unfold NodeV.cells;rw[show 11+i=(8+i)+1+1+1 by omega,List.getElem?_cons_succ,List.getElem?_cons_succ,List.getElem?_cons_succ,List.getElem?_append_right (by simp[m])];simp[m,h]
def qh9(N:NodeV)(ps:List PeerV)(X:Nat→List Live)(i:Nat):Option Int :=
 if N.swept[i]? = some true then none else (ps[i]?).map fun p=>IntKind.u64.wrap (p.c.loc+qcu (qe2 true false (X i)) 0)
def qhl(f:Nat→Option Int)(a:Int):Nat→Int
 | 0=>a
 | n+1=>match f n with | none=>qhl f a n | some x=>IntKind.u64.wrap (qhl f a n+x)
theorem qna(a b:Value)(w:World):(Instr.field 59 (.agg #[a,b]) 0).run Tryz.prog w = .ok a w:=by kernel_rfl
theorem qzp(m:MsgV)(w:World):(Instr.field 101 (.agg m.cells.toArray) 1).run Tryz.prog w = .ok (.int .u32 m.ch) w:=by kernel_rfl
attribute [local go_sem] qna qzp qy
theorem qqs(g:Nat)(N:NodeV)(R:RelV)(ps:List PeerV)(X:Nat→List Live)(w:World)(h:NodI w g N R ps)(hl:ps.length≤8)(hs:N.shut.length=8)(hw:N.swept.length=8)
  (J:∀(i:Nat) (p:PeerV),ps[i]? = some p→ChI w p.l.en p.c (X i)) (y:∀i,(X i).length≤1000000) (K:∀i,∀x∈X i,LiveOk x) :
  Calls Tryz.prog 40 #[.pointer (some ⟨g,0,none⟩)] w (qar (.int .u64 (qhl (qh9 N ps X) N.funds ps.length)) w):=by
 have I:w.cell? ⟨g,0,none⟩=some (.pointer (some ⟨N.re,0,none⟩)):=qk h.at_ 0
 have c1:w.cell? ⟨g,1,none⟩=some (.int .u64 N.funds):=qk h.at_ 1
 go_enter Tryz.func40,Tryz.ntmps40
 go_wp2_with ((with_reducible first|rfl|refine' ut ?_ ?_;rotate_left|refine' uu ?_)<;>intros)
 refine(qnv N.re R ps w h.re).mono ?_
 rintro e w1 ⟨rfl,q1⟩
 have n1:qq w w1:=q1.upd _
 clear q1
 obtain⟨wo,rfl⟩:∃wo:World,wo=w1:=⟨_,rfl⟩
 have a6:(ps.length:Int)≤8:=by omega
 go_wp2_with ((with_reducible first|rfl|refine' ut ?_ ?_;rotate_left|refine' uu ?_)<;>intros)
 go_loopw [3,4,5,15] (fun sv _ _ P wr=>∃i:Nat,P = .int .i64 (i:Int)∧i≤ps.length∧sv = .int .u64 (qhl (qh9 N ps X) N.funds i)∧qq w wr) (fun _ _ _ P _=>ps.length-(intOf P).toNat)
 case atStart=>exact⟨0,rfl,Nat.zero_le _,rfl,n1⟩
 case round =>
  obtain⟨i,rfl,hi,rfl,t⟩:=hrel;obtain⟨V,rfl⟩:∃V:World,V=wr:=⟨_,rfl⟩;have d0:=t.cell I (fun h=>h);have HX:=qj J;have H:=qj (h.new t);by_cases O:i<ps.length
  ·obtain⟨p,hp⟩:∃p,ps[i]? = some p:=⟨_,List.getElem?_eq_getElem O⟩;obtain⟨b,M⟩:∃b,N.swept[i]? = some b:=⟨_,List.getElem?_eq_getElem (by omega)⟩;have ds:V.cell? ⟨g,11+i,none⟩=some (.bool b):=by rw[qk (qg H).at_,List.getElem?_toArray];exact qg7 N hs i b M
   have a1:(i:Int)<(ps.length:Int):=by omega
   have a2:(i:Int)<8:=by omega
   have C:=qj hp;have W:=qj M;have D:=qj (show qhl (qh9 N ps X) N.funds (i+1)=match qh9 N ps X i with | none=>qhl (qh9 N ps X) N.funds i | some x=>IntKind.u64.wrap (qhl (qh9 N ps X) N.funds i+x) from rfl);clear h J hp M I c1;generalize qhl (qh9 N ps X) N.funds i=A at *
   cases b with
   | true =>
    have q:qh9 N ps X i=none:=by unfold qh9;rw[if_pos (qg W)]
    rw[q] at D;have HF:=qj q;clear q;go_wp2_with ((with_reducible first|rfl|refine' ut ?_ ?_;rotate_left|refine' uu ?_)<;>intros);go_roundw
    case rel=>exact⟨i+1,by go_num,by omega,by rw[qg D],t⟩
    case measure=>simp[intOf];omega
   | false =>
    have q:qh9 N ps X i=some (IntKind.u64.wrap (p.c.loc+qcu (qe2 true false (X i)) 0)):=by
     unfold qh9;rw[if_neg (by rw[qg W];decide),qg C];rfl
    rw[q] at D;clear q;go_wp2_with ((with_reducible first|rfl|refine' ut ?_ ?_;rotate_left|refine' uu ?_)<;>intros);refine(qg3 N.re R ps _ (qg H).re (by omega) i p (qg C)).mono ?_;rintro e w2 ⟨rfl,U⟩;have n2:qq w w2:=t.trans (U.upd _);have Y:=qj (qg HX i p (qg C));have Z:=qj ((qg H).re.links p (List.mem_of_getElem? (qg C))).1;go_wp2_with ((with_reducible first|rfl|refine' ut ?_ ?_;rotate_left|refine' uu ?_)<;>intros);refine(qm7 p.lk p.l _ (U.old (qg Z))).mono ?_;rintro e w3 ⟨rfl,q3⟩;have T:qq w w3:=n2.trans (q3.upd _);clear t n2 U q3 Z;go_wp2_with ((with_reducible first|rfl|refine' ut ?_ ?_;rotate_left|refine' uu ?_)<;>intros);refine(qmy p.l.en p.c _ ((qg Y).toChR.new T)).mono ?_;rintro e w4 ⟨rfl,z⟩;have z:=T.trans z;go_wp2_with ((with_reducible first|rfl|refine' ut ?_ ?_;rotate_left|refine' uu ?_)<;>intros);refine(qk3 p.l.en p.c (X i) true false (y i) _ ((qg Y).new z)).mono ?_;rintro e w5 ⟨v,rfl,hv,E⟩;have E:=z.trans E;clear T z;have o:=quf v _ w5 hv (by have:=List.length_filterMap_le (qho true false) (X i);have:=y i;unfold qe2;omega) (fun a ha=>by
     obtain⟨x,hx,m⟩:=List.mem_filterMap.1 ha;unfold qho at m;split at m
     ·injection m with m;subst m;have:=(K i x hx).h.amount;omega
     ·cases m)
    clear hv;generalize qcu (qe2 true false (X i)) 0=S at *
    go_wp2_with ((with_reducible first|rfl|refine' ut ?_ ?_;rotate_left|refine' uu ?_)<;>intros);refine o.mono ?_;rintro e w6 ⟨rfl,q6⟩;have n6:=E.trans (q6.upd _);clear q6 o E;go_wp2_with ((with_reducible first|rfl|refine' ut ?_ ?_;rotate_left|refine' uu ?_)<;>intros);go_roundw
    case rel=>exact⟨i+1,by go_num,by omega,by rw[qg D,IntKind.wrap_u64,IntKind.wrap_u64],n6⟩
    case measure=>simp[intOf];omega
  ·obtain rfl:i=ps.length:=by omega
   clear h J I c1;generalize hA:qhl (qh9 N ps X) N.funds ps.length=A at *
   go_wp2_with ((with_reducible first|rfl|refine' ut ?_ ?_;rotate_left|refine' uu ?_)<;>intros);go_ret;exact⟨rfl,t⟩
structure RowV where
 ch:Int
 loc:Int
 rem:Int
 pend:Int
 closed:Bool
def RowV.cells(r:RowV):List Value:=[.int .u32 r.ch,.int .u64 r.loc,.int .u64 r.rem,.int .u64 r.pend,.bool r.closed]
def RowV.zero:RowV:=⟨0,0,0,0,false⟩
theorem RowV.len(r:RowV):r.cells.length=5:=rfl
theorem Tryz.infoRow5:(Tryz.prog.info? 87).map (·.size)=some 5:=by kernel_rfl
def q8z(x:Value):Sem Value:=Instr.loadAt 87 x
theorem qh0(x:Value):Instr.loadAt 87 x=q8z x:=rfl
theorem qwl(b o:Nat)(w:World):(q8z (.pointer (some ⟨b,o,none⟩))).run Tryz.prog w=match zt w b o 5 with | some A=> .ok (.agg A) w | none=>qc3 Tryz.prog 87 w b o :=
 qag 87 5 _ Tryz.underlying87 rfl Tryz.infoRow5 b o w
def q9a(x v:Value):Sem Unit:=Instr.storeAt 87 x v
theorem qlu(x v:Value):Instr.storeAt 87 x v=q9a x v:=rfl
theorem q5w(b o:Nat)(A:Array Value)(w:World):(q9a (.pointer (some ⟨b,o,none⟩)) (.agg A)).run Tryz.prog w=if stOk w b o 5 A=true then .ok () (w.setCells b o A.toList) else qes Tryz.prog 87 w b o A :=
 qaz 87 5 Tryz.infoRow5 b o A w
def q8m:Sem Value:=Instr.alloc 87 true (.tuple #[])
theorem qk2:Instr.alloc 87 true (.tuple #[])=q8m:=rfl
theorem q2c(w:World):q8m.run Tryz.prog w = .ok (.pointer (some ⟨w.heap.size,0,none⟩)) (w.alloc (.cells RowV.zero.cells.toArray 87)):=by kernel_rfl
def q8r(n:Nat)(p:Array (Nat × Value)):Sem Value:=Instr.buildSlice 88 n p
theorem qs6(n:Nat)(p:Array (Nat × Value)):Instr.buildSlice 88 n p=q8r n p:=rfl
theorem q9n(r:RowV)(w:World):(q8r 1 #[(0,.agg r.cells.toArray)]).run Tryz.prog w = .ok (.slice (some ⟨w.heap.size,0,none⟩) 1 1) (w.alloc (.cells r.cells.toArray 87)):=by kernel_rfl
theorem RowV.one(r:RowV):∀v∈r.cells,v.oneCell'=true:=by
 intro v i;simp only[RowV.cells,List.mem_cons,List.not_mem_nil,or_false] at i;rcases i with rfl | rfl | rfl | rfl | rfl<;>rfl
theorem qol{w:World}{k:Nat}{T:TypeId}{r:RowV}(h:w.heap[k]? = some (.cells r.cells.toArray T (0,0)))(m:RowV):stOk w k 0 5 m.cells.toArray=true :=
 qdk (C:=r.cells.toArray) h rfl (fun v i=>by
  simp only[RowV.cells,List.mem_cons,List.not_mem_nil,or_false] at i;rcases i with rfl | rfl | rfl | rfl | rfl<;>rfl)
theorem qnr{w:World}{k:Nat}{T:TypeId}{r:RowV}(h:w.heap[k]? = some (.cells r.cells.toArray T (0,0)))(i:RowV):(w.setCells k 0 i.cells).heap[k]? = some (.cells i.cells.toArray T (0,0)):=by
 rw[qax h 0 i.cells,qb5 r.cells.toArray i.cells rfl]
def qfb(N:NodeV)(ps:List PeerV)(X:Nat→List Live)(i:Nat):RowV :=
 match ps[i]? with
 | none=>⟨0,0,0,0,false⟩
 | some p=>if N.swept[i]? = some true then ⟨p.c.setup.ch,0,0,0,true⟩ else ⟨p.c.setup.ch,p.c.loc,p.c.rem,qcu (qe2 true true (X i)) 0,false⟩
def q8n(p:Array (Nat × Value)):Sem Value:=Instr.build 87 p
theorem qs3(p:Array (Nat × Value)):Instr.build 87 p=q8n p:=rfl
theorem q9l(c:Int)(b:Bool)(w:World):(q8n #[(0,.int .u32 c),(4,.bool b)]).run Tryz.prog w = .ok (.agg (RowV.cells ⟨c,0,0,0,b⟩).toArray) w:=run_build w _ _ _ (by kernel_rfl)
theorem Tryz.infoRow:(Tryz.prog.info? 87).map (fun i=>(i.size,i.zero.map fun z=>z.cells.toList))=some (5,some [.int .u32 0,.int .u64 0,.int .u64 0,.int .u64 0,.bool false]):=by kernel_rfl
theorem q5b:∃i z b,Tryz.prog.info? 87=some i∧i.zero=some z∧i.size=5∧i.bytes=b∧z.cells.size=5∧b≤1000:=by
 cases m:Tryz.prog.info? 87 with
 | none=>have h:=Tryz.infoRow;rw[m] at h;simp at h
 | some i =>
  have h:=Tryz.infoRow;have q:(Tryz.prog.info? 87).map (fun i=>decide (i.bytes≤1000))=some true:=by kernel_rfl
  rw[m,Option.map_some,Option.some.injEq,Prod.mk.injEq] at h;rw[m,Option.map_some,Option.some.injEq] at q;cases o:i.zero with
  | none=>rw[o] at h;simp at h
  | some z =>
   rw[o,Option.map_some,Option.some.injEq] at h;refine⟨i,z,i.bytes,rfl,o,h.1,rfl,?_,of_decide_eq_true q⟩;rw[←Array.length_toList,h.2];rfl
attribute [local go_sem ↓ high] qs3 qh0 qlu qk2 qs6
attribute [local go_sem] q9l qwl q5w q2c q9n
theorem qqc(g:Nat)(N:NodeV)(R:RelV)(ps:List PeerV)(X:Nat→List Live)(w:World)(h:NodI w g N R ps)(hl:ps.length≤8)(hs:N.shut.length=8)(hw:N.swept.length=8)
  (hX:∀(i:Nat) (p:PeerV),ps[i]? = some p→ChI w p.l.en p.c (X i)∧(0≤p.c.k.signed∧p.c.k.signed<4294967296)∧(0≤p.c.k.heard∧p.c.k.heard<4294967296)) (d8:∀i,(X i).length≤1000000) (f9:∀i,∀x∈X i,LiveOk x) :
  Calls Tryz.prog 39 #[.pointer (some ⟨g,0,none⟩)] w fun e w'=>∃v,e = .returned v∧w'.ownsRow w.heap.size 87 5 v ps.length (((List.range ps.length).map (qfb N ps X)).flatMap RowV.cells)∧qq w w':=by
 have c0:w.cell? ⟨g,0,none⟩=some (.pointer (some ⟨N.re,0,none⟩)):=qk h.at_ 0
 go_enter Tryz.func39,Tryz.ntmps39
 go_wp2_with ((with_reducible first|rfl|refine' ut ?_ ?_;rotate_left|refine' uu ?_)<;>intros)
 refine(qnv N.re R ps w h.re).mono ?_
 rintro e w1 ⟨rfl,q1⟩
 have n1:qq w w1:=q1.upd _
 clear q1
 obtain⟨wo,rfl⟩:∃wo:World,wo=w1:=⟨_,rfl⟩
 have g7:(ps.length:Int)≤8:=by omega
 obtain⟨i9,z9,b9,e6,f6,f0,f4,f5,e5⟩:=q5b
 go_wp2_with ((with_reducible first|rfl|refine' ut ?_ ?_;rotate_left|refine' uu ?_)<;>intros)
 go_loopw [3,4,5,6,7,13] (fun sv _ _ _ _ iv wr=>∃i:Nat,iv = .int .i64 (i:Int)∧i≤ps.length∧wr.ownsRow w.heap.size 87 5 sv i (((List.range i).map (qfb N ps X)).flatMap RowV.cells)∧qq w wr) (fun _ _ _ _ _ iv _=>ps.length-(intOf iv).toNat)
 case atStart=>exact⟨0,rfl,Nat.zero_le _,⟨rfl,.inl ⟨rfl,rfl⟩⟩,n1⟩
 case round =>
  obtain⟨i,rfl,hi,hA,nr⟩:=hrel;obtain⟨wq,rfl⟩:∃wq:World,wq=wr:=⟨_,rfl⟩;have d0:=nr.cell c0 (fun h=>h);have HX:=qj hX;have HA:=qj hA;have H:=qj (h.new nr);by_cases c9:i<ps.length
  ·obtain⟨p,hp⟩:∃p,ps[i]? = some p:=⟨_,List.getElem?_eq_getElem c9⟩;obtain⟨b,K⟩:∃b,N.swept[i]? = some b:=⟨_,List.getElem?_eq_getElem (by omega)⟩;have ds:wq.cell? ⟨g,11+i,none⟩=some (.bool b):=by rw[qk (qg H).at_,List.getElem?_toArray];exact qg7 N hs i b K
   have g4:(i:Int)<(ps.length:Int):=by omega
   have g5:(i:Int)<8:=by omega
   have HP:=qj hp;have HB:=qj K;obtain⟨d7,e7,e8⟩:=hX i p hp;have HC:=qj d7;clear h hX hp K c0 hA d7;go_wp2_with ((with_reducible first|rfl|refine' ut ?_ ?_;rotate_left|refine' uu ?_)<;>intros);refine(qg3 N.re R ps _ (qg H).re (by omega) i p (qg HP)).mono ?_;rintro e w2 ⟨rfl,q2⟩;have n2:qq w w2:=nr.trans (q2.upd _);have HK:=qj ((qg H).re.links p (List.mem_of_getElem? (qg HP))).1;go_wp2_with ((with_reducible first|rfl|refine' ut ?_ ?_;rotate_left|refine' uu ?_)<;>intros);refine(qm7 p.lk p.l _ (q2.old (qg HK))).mono ?_;rintro e z ⟨rfl,q3⟩;have n3:qq w z:=n2.trans (q3.upd _);have f7:qq wq z:=(q2.upd _).trans (q3.upd _);have a8:=qj (qcg (qg HA) f7);have D:=f7.cell ds (fun h=>h);clear nr n2 q2 q3 HK HA ds d0;go_upto_region 6 with fail;have d9:∀(w4:World),qq z w4→ChR w4 p.l.en p.c:=fun w4 y=>(qg HC).toChR.new (n3.trans y)
   have b2:=qj d9;clear d9;have d6:z.drew.cell? ⟨g,11+i,none⟩=some (.bool b):=D
   go_cut [6] from 23 to 32 (fun sv wx=>∃k,sv = .pointer (some ⟨k,0,none⟩)∧z.heap.size≤k∧wx.heap[k]? = some (.cells (RowV.cells ⟨p.c.setup.ch,0,0,0,b⟩).toArray 87 (0,0))∧qq z wx)
   case first =>
    refine qay (fun w'=>w'.cell? ⟨g,11+i,none⟩=some (.bool b)) [8] (.fork (.of [0,1,2,3,4,5,6,7,8,9,10,11]) (.of [10,0,1,2,3,4,5,6,7,8,9,11])) (by kernel_rfl) (by kernel_rfl) D ?_;simp only[Plan.of];refine qf ?_ ?_
    ·go_wp2_with ((with_reducible first|rfl|refine' ut ?_ ?_;rotate_left|refine' uu ?_)<;>intros);refine(qph p.l.en p.c _ (qg b2 _ (Upd.refl _ _).drew) e7 e8).mono ?_;rintro e w4 ⟨rfl,y⟩;have y:=y.ofDrew;have a1:=y.cell D (fun h=>h);have m:=ql w4 (.cells RowV.zero.cells.toArray 87);have q:=y.alloc (.cells RowV.zero.cells.toArray 87);have hz:=y.size;go_wp2_with ((with_reducible first|rfl|refine' ut ?_ ?_;rotate_left|refine' uu ?_)<;>intros);refine⟨a1,?_⟩;go_wp2_with ((with_reducible first|rfl|refine' ut ?_ ?_;rotate_left|refine' uu ?_)<;>intros);refine⟨q.cell D (fun h=>h),?_⟩;have T:=q.cell D (fun h=>h);generalize w4.alloc (.cells RowV.zero.cells.toArray 87)=O at m q T ⊢;generalize w4.heap.size=k at m hz ⊢;have g2:=qol m ⟨p.c.setup.ch,0,0,0,b⟩;have hS:=qnr m ⟨p.c.setup.ch,0,0,0,b⟩;have nS:qq z (O.setCells k 0 (RowV.cells ⟨p.c.setup.ch,0,0,0,b⟩)):=q.then ((Upd.refl (· = k) O).setCells 0 _) (fun i hi e=>by omega);have b7:=qj hS;have b4:=qj nS;clear hS nS y q m a1;go_wp2_with ((with_reducible first|rfl|refine' ut ?_ ?_;rotate_left|refine' uu ?_)<;>intros);go_meet
     case rel=>exact⟨_,rfl,hz,qg b7,qg b4⟩
    ·have n0:qq z (z.alloc (.cells RowV.zero.cells.toArray 87)).drew:=((Upd.refl _ _).alloc _).drew;have m:(z.alloc (.cells RowV.zero.cells.toArray 87)).drew.heap[z.heap.size]? = _:=ql z (.cells RowV.zero.cells.toArray 87);have T:=n0.cell D (fun h=>h);go_wp2_with ((with_reducible first|rfl|refine' ut ?_ ?_;rotate_left|refine' uu ?_)<;>intros);refine⟨T,?_⟩;generalize (z.alloc (.cells RowV.zero.cells.toArray 87)).drew=wa at n0 m T ⊢;have hz:z.heap.size≤z.heap.size:=Nat.le_refl _;generalize M:z.heap.size=k at m ⊢;rw[M] at hz;go_wp2_with ((with_reducible first|rfl|refine' ut ?_ ?_;rotate_left|refine' uu ?_)<;>intros);refine(qph p.l.en p.c _ (qg b2 _ n0) e7 e8).mono ?_;rintro e O ⟨rfl,y⟩;have m:=y.old m (fun h=>h);have a1:=y.cell T (fun h=>h);have q:=n0.trans y;have g2:=qol m ⟨p.c.setup.ch,0,0,0,b⟩;have hS:=qnr m ⟨p.c.setup.ch,0,0,0,b⟩;have nS:qq z (O.setCells k 0 (RowV.cells ⟨p.c.setup.ch,0,0,0,b⟩)):=q.then ((Upd.refl (· = k) O).setCells 0 _) (fun i hi e=>by omega);have b7:=qj hS;have b4:=qj nS;clear hS nS n0 y q m;go_wp2_with ((with_reducible first|rfl|refine' ut ?_ ?_;rotate_left|refine' uu ?_)<;>intros);refine⟨a1,?_⟩;go_wp2_with ((with_reducible first|rfl|refine' ut ?_ ?_;rotate_left|refine' uu ?_)<;>intros);go_meet
     case rel=>exact⟨_,rfl,by omega,qg b7,qg b4⟩
   case rest =>
    obtain⟨k,rfl,M,K,nc⟩:=hcut;obtain⟨wd,rfl⟩:∃wd:World,wd=wc:=⟨_,rfl⟩;have y:=n3.trans nc;have e4:=qk K 4;have f1:=qo K 1;have f2:=qo K 2;have f3:=qo K 3;simp[RowV.cells] at e4;have Z:=qj (qcg (qg a8) nc);have a6:∀j,Value.ownBlock u3=some j→j<z.heap.size:=fun j hj=>by
     obtain⟨g3,hc⟩:=qjr (qg a8) j hj;exact zi hc
    have d4:=qj a6;clear a6;have g6:w.heap.size≤k:=by have:=n3.size;omega
    have b3:=qj K;have e9:(List.range (i+1)).map (qfb N ps X)=(List.range i).map (qfb N ps X)++[qfb N ps X i]:=by rw[List.range_succ,List.map_append];rfl
    have d5:=qj e9;clear e9 K a8 nc D b2 d6;cases b with
    | true =>
     have Y:qfb N ps X i=⟨p.c.setup.ch,0,0,0,true⟩:=by unfold qfb;rw[qg HP];simp only;rw[if_pos (qg HB)]
     have b6:=qj Y;clear Y;have I:=qaj (qg b3) 5 rfl;go_wp2_with (at_builtin;refine wpList_append_own _ rfl (.tmp 48) (.tmp 50) 88 rfl w.heap.size 87 i9 _ 5 b9 Tryz.underlying88 e6 f6 f0 f4 f5 (by decide) _ _ _ rfl ((qg Z).alloc _) ⟨wd.heap.size,0,none⟩ 1 1 (RowV.cells ⟨p.c.setup.ch,0,0,0,true⟩) rfl rfl ?c1 ?c2 ?c3 ?c4 ?c5 ?_)
     case c1=>exact World.news_of_block (cs:=(RowV.cells ⟨p.c.setup.ch,0,0,0,true⟩).toArray) (fr:=(0,0)) (heap_alloc_new wd _)
     case c2=>exact RowV.one _
     case c3=>unfold maxLen;omega
     case c4=>have:=Nat.mul_le_mul (show i+1≤8 by omega) e5;omega
     case c5=>have:=y.size;simp;omega
     intro v' w' o W _;have c7:∀k,Value.ownBlock u3=some k→w.heap.size≤k:=by
      intro k M;rcases (qg Z).2 with ⟨rfl,_⟩ | ⟨g,_,_,rfl,K,_⟩
      ·simp[Value.ownBlock] at M
      ·simp[Value.ownBlock] at M;omega
     have nw:qq w w':=(y.alloc _).grown W (fun k M c9=>by have:=c7 k M;omega);have b5:=qj o;clear o W I e4 f1 f2 f3;go_wp2_with fail;go_roundw
     case rel =>
      refine⟨i+1,by go_num,by omega,?_,nw⟩;rw[qg d5,List.flatMap_append,qg b6];exact qg b5
     case measure=>simp[intOf];omega
    | false =>
     have Y:qfb N ps X i=⟨p.c.setup.ch,p.c.loc,p.c.rem,qcu (qe2 true true (X i)) 0,false⟩:=by unfold qfb;rw[qg HP];simp only;rw[if_neg (by rw[qg HB];decide)]
     have b6:=qj Y;clear Y;go_wp2_with ((with_reducible first|rfl|refine' ut ?_ ?_;rotate_left|refine' uu ?_)<;>intros);refine(qmy p.l.en p.c _ ((qg HC).toChR.new y)).mono ?_;rintro e O ⟨rfl,nb⟩;have q:=y.trans nb;have C:=nb.old (qg b3) (fun h=>h);have d1:=qj (qcg (qg Z) nb);clear nb Z b3 e4 f1 f2 f3;have V:=ql O (.cells #[.int .u64 p.c.loc,.int .u64 p.c.rem] 59);have nB:qq O (O.alloc (.cells #[.int .u64 p.c.loc,.int .u64 p.c.rem] 59)):=(Upd.refl _ _).alloc _;have c8:k≠O.heap.size:=by have:=zi C;omega
     go_upto_region 9 with ((with_reducible first|rfl|refine' ut ?_ ?_;rotate_left|refine' uu ?_)<;>intros);replace C:=nB.old C (fun h=>h);replace q:=q.trans nB;have b0:=qj (qcg (qg d1) nB);clear nB d1;generalize O.alloc (.cells #[.int .u64 p.c.loc,.int .u64 p.c.rem] 59)=wB at V C q b0 ⊢;generalize O.heap.size=B at V c8 ⊢;have g0:wB.drew.cell? ⟨B,0,none⟩=some (.int .u64 p.c.loc):=qk V 0;have g1:wB.drew.cell? ⟨B,1,none⟩=some (.int .u64 p.c.rem):=qk V 1;have u1:Upd (· = k) wB (wB.setCell ⟨k,1,none⟩ (.int .u64 p.c.loc)).drew:=((Upd.refl _ _).set1 1 _).drew;have a2:(wB.setCell ⟨k,1,none⟩ (.int .u64 p.c.loc)).drew.heap[k]? = _:=zq C 1 (.int .u64 p.c.loc);have b8:=u1.cell g1 (fun e=>c8 e.symm);have u2:=u1.set1 2 (.int .u64 p.c.rem);have U:=zq a2 2 (.int .u64 p.c.rem);have E:=u2.cell g1 (fun e=>c8 e.symm);have e1:wB.drew.cell? ⟨k,1,none⟩=some (.int .u64 0):=qk C 1;have f1:wB.drew.frozen? ⟨k,1,none⟩=false:=qo C 1;have e2:(wB.setCell ⟨k,1,none⟩ (.int .u64 p.c.loc)).drew.cell? ⟨k,2,none⟩=some (.int .u64 0):=qk a2 2;have f2:=qo a2 2;have HS:=qj (And.intro u2 U);clear C a2 U u1 u2 V;refine qay (fun w'=>w'.cell? ⟨B,1,none⟩=some (.int .u64 p.c.rem)) [3] (.of [0,1,2,3,4,5,6,7]) (by kernel_rfl) (by kernel_rfl) g1 ?_;simp only[Plan.of];go_wp2_with ((with_reducible first|rfl|refine' ut ?_ ?_;rotate_left|refine' uu ?_)<;>intros);refine⟨b8,?_⟩;generalize (wB.setCell ⟨k,1,none⟩ (.int .u64 p.c.loc)).drew=wC at b8 E e2 f2 HS ⊢;go_wp2_with ((with_reducible first|rfl|refine' ut ?_ ?_;rotate_left|refine' uu ?_)<;>intros)
     first | refine⟨E,?_⟩ | skip
     obtain⟨u7,U⟩:=qg HS;have n7:qq w (wC.setCell ⟨k,2,none⟩ (.int .u64 p.c.rem)):=q.then u7 (fun i hi e=>by omega);have t:(wC.setCell ⟨k,2,none⟩ (.int .u64 p.c.rem)).heap[k]? = some (.cells (RowV.cells ⟨p.c.setup.ch,p.c.loc,p.c.rem,0,false⟩).toArray 87 (0,0)):=U;have b1:=qj (qjy (qg b0) u7 (fun j hj e=>by have:=qg d4 j hj;omega));clear HS u7 U g1 b8 e1 e2 f1 f2 g0 b0 q;generalize wC.setCell ⟨k,2,none⟩ (.int .u64 p.c.rem)=wD at n7 t b1 E ⊢;go_wp2_with (first | (with_reducible apply qn) | fail);refine(qk3 p.l.en p.c (X i) true true (d8 i) _ ((qg HC).new n7)).mono ?_;rintro e w5 ⟨v,rfl,hv,q⟩;replace t:=q.old t (fun h=>h);have d2:=qj (qcg (qg b1) q);have q:=n7.trans q;have a7:=quf v _ w5 hv (by have:=List.length_filterMap_le (qho true true) (X i);have:=d8 i;unfold qe2;omega) (fun a ha=>by
      obtain⟨x,hx,J⟩:=List.mem_filterMap.1 ha;unfold qho at J;split at J
      ·injection J with J;subst J;have:=(f9 i x hx).h.amount;omega
      ·cases J)
     clear hv n7 E b1;generalize qcu (qe2 true true (X i)) 0=S at *
     go_wp2_with ((with_reducible first|rfl|refine' ut ?_ ?_;rotate_left|refine' uu ?_)<;>intros);refine a7.mono ?_;rintro e w6 ⟨rfl,q6⟩;replace t:=q6.old t;have d3:=qj (qcg (qg d2) (q6.upd _));have n6:=q.trans (q6.upd _);clear q6 a7 q d2;have e3:w6.cell? ⟨k,3,none⟩=some (.int .u64 0):=qk t 3;have f3:=qo t 3;have u6:Upd (· = k) w6 (w6.setCell ⟨k,3,none⟩ (.int .u64 S)):=(Upd.refl _ _).set1 3 _;have c6:(w6.setCell ⟨k,3,none⟩ (.int .u64 S)).heap[k]? = some (.cells (RowV.cells ⟨p.c.setup.ch,p.c.loc,p.c.rem,S,false⟩).toArray 87 (0,0)):=zq t 3 _;have n7:qq w (w6.setCell ⟨k,3,none⟩ (.int .u64 S)):=n6.then u6 (fun i hi e=>by omega);have P:=qj (qjy (qg d3) u6 (fun j hj e=>by have:=qg d4 j hj;omega));have f8:=qj c6;have I:=qaj c6 5 rfl;clear t n6 u6 d3 c6;go_upto_region 11 with fail;generalize w6.setCell ⟨k,3,none⟩ (.int .u64 S)=w7 at n7 P f8 I ⊢;go_wp2_with (at_builtin;refine wpList_append_own _ rfl (.tmp 48) (.tmp 50) 88 rfl w.heap.size 87 i9 _ 5 b9 Tryz.underlying88 e6 f6 f0 f4 f5 (by decide) _ _ _ rfl ((qg P).alloc _) ⟨w7.heap.size,0,none⟩ 1 1 (RowV.cells ⟨p.c.setup.ch,p.c.loc,p.c.rem,S,false⟩) rfl rfl ?c1 ?c2 ?c3 ?c4 ?c5 ?_)
     case c1=>exact World.news_of_block (cs:=(RowV.cells ⟨p.c.setup.ch,p.c.loc,p.c.rem,S,false⟩).toArray) (fr:=(0,0)) (heap_alloc_new w7 _)
     case c2=>exact RowV.one _
     case c3=>unfold maxLen;omega
     case c4=>have:=Nat.mul_le_mul (show i+1≤8 by omega) e5;omega
     case c5=>have:=n7.size;simp;omega
     intro v' w' o W _;have c7:∀k,Value.ownBlock u3=some k→w.heap.size≤k:=by
      intro k M;rcases (qg P).2 with ⟨rfl,_⟩ | ⟨g,_,_,rfl,K,_⟩
      ·simp[Value.ownBlock] at M
      ·simp[Value.ownBlock] at M;omega
     have nw:qq w w':=(n7.alloc _).grown W (fun k M c9=>by have:=c7 k M;omega);have b5:=qj o;clear o W I e3 f3;go_wp2_with fail;go_roundw
     case rel =>
      refine⟨i+1,by go_num,by omega,?_,nw⟩;rw[qg d5,List.flatMap_append,qg b6];exact qg b5
     case measure=>simp[intOf];omega
  ·obtain rfl:i=ps.length:=by omega
   clear h hX c0 hA;go_wp2_with ((with_reducible first|rfl|refine' ut ?_ ?_;rotate_left|refine' uu ?_)<;>intros);go_ret;exact⟨_,rfl,qg HA,nr⟩
end
section
open Go.RowKit
def e0:ByteArray:=⟨#[]⟩
def SetupV.of(c a b:Int):SetupV:=⟨c,a,b,zm,e0,e0⟩
theorem q84(c a b:Int)(i:0≤c∧c<4294967296)(m:0≤a∧a<18446744073709551616)(o:0≤b∧b<18446744073709551616):(SetupV.of c a b).Ok:=⟨i,m,o,qu⟩
def q2m(p:Array (Nat × Value)):Sem Value:=Instr.build 78 p
theorem qk9(p:Array (Nat × Value)):Instr.build 78 p=q2m p:=rfl
theorem qx0(c a b:Int)(w:World):(q2m #[(0,.int .u32 c),(1,.int .u64 a),(2,.int .u64 b)]).run Tryz.prog w = .ok (.agg (SetupV.of c a b).cells.toArray) w:=run_build w _ _ _ (by kernel_rfl)
theorem q6x(c a:Int)(w:World):(q2m #[(0,.int .u32 c),(1,.int .u64 a)]).run Tryz.prog w = .ok (.agg (SetupV.of c a 0).cells.toArray) w:=run_build w _ _ _ (by kernel_rfl)
def q2l(p:Array (Nat × Value)):Sem Value:=Instr.build 87 p
theorem qrc(p:Array (Nat × Value)):Instr.build 87 p=q2l p:=rfl
theorem q6w(c a b:Int)(w:World):(q2l #[(0,.int .u32 c),(1,.int .u64 a),(2,.int .u64 b)]).run Tryz.prog w = .ok (.agg (RowV.cells ⟨c,a,b,0,false⟩).toArray) w:=run_build w _ _ _ (by kernel_rfl)
def q8s(x y:Value):Sem Value:=binOp .eql 87 x y
theorem qtk(x y:Value):binOp .eql 87 x y=q8s x y:=rfl
theorem qro(w:World):(q8s (.agg (RowV.cells ⟨1,4,5,0,false⟩).toArray) (.agg (RowV.cells ⟨1,4,5,0,false⟩).toArray)).run Tryz.prog w = .ok (.bool true) w:=by kernel_rfl
attribute [local go_sem ↓ high] qk9 qrc qtk qh0
attribute [local go_sem] qx0 q6x q6w qro qwl qy
theorem qyx{R:RelV}{ps:List PeerV}{s:SetupV}(i:R.drains=false)(v:ps.length<8)(m:∀p∈ps,p.ch≠s.ch)(o:s.may):qcj R ps s=0:=by
 unfold qcj;rw[if_neg (by simp[i]),if_neg (by omega),if_neg (by rintro ⟨p,t,q⟩;exact m p t q),if_pos o]
theorem qw1{N:NodeV}{R:RelV}{ps:List PeerV}{s:SetupV}(m:N.drains=false)(o:R.drains=false)(q:ps.length<8)(t:∀p∈ps,p.ch≠s.ch)(i:s.may)(v:s.ours≤N.funds):qbh N R ps s=0:=by
 unfold qbh;rw[if_neg (by simp[m]),if_neg (by have:=i.2.2.1;omega),if_neg (by omega),qyx o q t i]
theorem NewR.le{w:World}{B g:Nat}{r:RelV}(h:NewR w B g r):B≤g:=by
 obtain⟨a,p,d,i,C,D,E,H,v,x,y,z,m,o,q,t,l⟩:=h;omega
theorem qqb{w:World}{B g r:Nat}{f:Int}{R:RelV}(m:NoR w g (.new r f))(i:NewR w B r R):NodI w g (.new r f) R [] :=
 ⟨m,i.at_,⟨rfl,.inl ⟨i.peers,rfl⟩⟩,(fun p o=>by cases o),by rw[i.bs];have:=i.lt;have:=i.le;omega⟩
theorem q7n{w:World}{g:Nat}{s:SetupV}(h:ChR w g (.new s)):ChI w g (.new s) []:=⟨h,⟨rfl,.inl ⟨rfl,rfl⟩⟩⟩
theorem q1a{N:NodeV}{ps:List PeerV}{i:Nat}{p:PeerV}{s:SetupV}(o:ps[i]? = some p)(m:p.c = .new s)(q:N.swept[i]? = some false):qfb N ps (fun _=>[]) i=⟨s.ch,s.ours,s.cap-s.ours,0,false⟩:=by
 unfold qfb;rw[o];simp only;rw[if_neg (by rw[q];decide),m];rfl
theorem q56{N:NodeV}{ps:List PeerV}{i:Nat}{p:PeerV}{s:SetupV}(q:ps[i]? = some p)(o:p.c = .new s)(t:N.swept[i]? = some false)(m:0≤s.ours∧s.ours<18446744073709551616):qh9 N ps (fun _=>[]) i=some s.ours:=by
 unfold qh9;rw[if_neg (by rw[t];decide),q,Option.map_some,o];have:IntKind.u64.wrap ((ChanV.new s).loc+qcu (qe2 true false []) 0)=s.ours:=by
  show IntKind.u64.wrap (s.ours+0)=s.ours;rw[Int.add_zero];exact qdl m.1 (by omega)
 rw[this]
theorem qkr{α:Type}(f:α→List Value)(k:Nat)(m:∀x,(f x).length=k){w:World}{base:Nat}{T:TypeId}{v:Value}{n:Nat}{X:List α}(h:w.ownsRow base T k v n (X.flatMap f))(J:n=X.length){i:Nat}{x:α}(o:X[i]? = some x) :
  ∃g cap,v = .slice (some ⟨g,0,none⟩) n cap∧base≤g∧zt w g (i*k) k=some (f x).toArray:=by
 have E:=(List.getElem?_eq_some_iff.1 o).1
 rcases h.2 with ⟨e,e0⟩ | ⟨g,cap,q,e,y,C,z,M,K,H⟩
 ·omega
 ·have t:=Nat.mul_le_mul_right k (show i+1≤n from by omega);have I:=Nat.mul_le_mul_right k z;rw[Nat.succ_mul] at t;refine⟨g,cap,e,y,?_⟩;rw[qby C (i*k) k (by omega)];congr 1;apply Array.ext';apply List.ext_getElem?;intro j;by_cases D:j<k
  ·rw[Array.getElem?_toList,Array.getElem?_extract,if_pos (by omega),←Array.getElem?_toList,←qlg f k m X i j x o D,←H,List.getElem?_take_of_lt (by omega)]
  ·rw[List.getElem?_eq_none (by simp;omega),List.getElem?_eq_none (by rw[m];omega)]
theorem q1i(w:World):Calls Tryz.prog 31 #[] w (qar (.bool true) w):=by
 go_enter Tryz.func31,Tryz.ntmps31;go_wp2_with fail;refine(quc 10 0 0 ⟨by decide,by decide⟩ w).mono ?_;rintro e w1 (⟨-,g,r,R,rfl,hr,a2,hn,P,n1⟩ | ⟨h,-⟩)
 case' inr=>omega
 have hI:=qqb hn P;have hd:=P.drains;have Y:=P.peers;clear hn P;go_wp2_with fail;have hs:=q84 1 9 4 ⟨by decide,by decide⟩ ⟨by decide,by decide⟩ ⟨by decide,by decide⟩;have hE:qbh (.new r 10) R [] (.of 1 9 4)=0:=qw1 rfl hd (by decide) (fun p t=>by cases t) (by unfold SetupV.may SetupV.of;exact⟨by decide,by decide,by decide,by decide,by decide⟩) (show (4:Int)≤10 by decide);have q:=q45 g (.new r 10) R [] (.of 1 9 4) hs w1 hI (by decide) (show (0:Int)≤10∧(10:Int)<18446744073709551616 by decide);unfold qdn at q;rw[hE] at q;refine q.mono ?_;rintro e E ⟨rfl,-,h2⟩;obtain⟨v,k,l,hL,I,u2⟩:=h2 rfl;have n2:qq w E:=n1.then u2 (fun i hi e=>by
  rcases e with e | e | e
  ·omega
  ·have e:i=r:=e;omega
  ·rw[Y] at e;cases e)
 clear u2 hI q h2;obtain⟨N,z⟩:∃N:NodeV,N = {re:=r,funds:=6,drains:=false,shut:=List.replicate 8 false,swept:=List.replicate 8 false} := ⟨_,rfl⟩;obtain⟨H,T⟩:∃H:RelV,H = {R with peers:=v} := ⟨_,rfl⟩;obtain⟨ps,m⟩:∃ps:List PeerV,ps=[{ch:=1,lk:=k,l:=l,c:=ChanV.new (SetupV.of 1 9 4)}]:=⟨_,rfl⟩;have o:NodI E g N H ps:=by rw[z,T,m];exact I
 have C:ps.length=1:=by rw[m];rfl
 have U:∀(i:Nat) (p:PeerV),ps[i]? = some p→ChI E p.l.en p.c []∧(0≤p.c.k.signed∧p.c.k.signed<4294967296)∧(0≤p.c.k.heard∧p.c.k.heard<4294967296):=by
  intro i p t;rw[m] at t;cases i with
  | succ i=>simp at t
  | zero =>
   simp at t;subst t;exact⟨q7n hL.ch,show (0:Int)≤0∧(0:Int)<4294967296 by decide,show (0:Int)≤0∧(0:Int)<4294967296 by decide⟩
 have y:(List.range ps.length).map (qfb N ps (fun _=>[]))=[⟨1,4,5,0,false⟩]:=by
  rw[C];show [qfb N ps (fun _=>[]) 0]=_;rw[q1a (p:= {ch:=1,lk:=k,l:=l,c:=ChanV.new (SetupV.of 1 9 4)}) (by rw[m];rfl) rfl (by rw[z];rfl)];rfl
 have M:qhl (qh9 N ps (fun _=>[])) N.funds ps.length=10:=by
  rw[C,qhl,qhl,q56 (p:= {ch:=1,lk:=k,l:=l,c:=ChanV.new (SetupV.of 1 9 4)}) (by rw[m];rfl) rfl (by rw[z];rfl) (show (0:Int)≤4∧(4:Int)<18446744073709551616 by decide),z];rfl
 have X:N.funds=6:=by rw[z]
 have K:N.shut.length=8:=by rw[z];rfl
 have O:N.swept.length=8:=by rw[z];rfl
 have J:=qqc g N H ps (fun _=>[]) E o (by omega) K O U (fun _=>by decide) (fun _ x Z=>by cases Z);rw[y,C] at J;have HT:=qj (fun(W:World) (n:qq E W)=>qqs g N H ps (fun _=>[]) W (o.new n) (by omega) K O (fun i p t=>(U i p t).1.new n) (fun _=>by decide) (fun _ x Z=>by cases Z));have HI:=qj o;have V:∀W,qq E W→Calls Tryz.prog 38 #[.pointer (some ⟨g,0,none⟩)] W (qae (.int .u64 6) W):=fun W n=>by
  rw[←X];exact qkg g N W (n.old (qg HI).at_ (fun h=>h))
 clear U y I o hL;go_wp2_with fail;refine J.mono ?_;rintro e w3 ⟨u,rfl,hu,n3⟩;obtain⟨gB,cap,rfl,-,D⟩:=qkr RowV.cells 5 RowV.len hu rfl (i:=0) (x:=⟨1,4,5,0,false⟩) rfl;rw[Nat.zero_mul] at D;rw[M] at HT;clear hu;go_wp2_with fail;refine(V w3 n3).mono ?_;rintro e w4 ⟨rfl,q4⟩;have a1:=zaa D q4;have n4:=n3.trans (q4.upd _);clear q4 D;go_wp2_with fail;refine(qg HT w4 n4).mono ?_;rintro e w5 ⟨rfl,n5⟩;go_wp2_with fail;go_ret;exact⟨rfl,n2.trans (n4.trans n5)⟩
end
section
open Go.RowKit
def Ch.new(s:SetupV):Ch:=⟨s,.zero,s.ours,s.cap-s.ours,[],List.replicate 17 .zero,[],[]⟩
theorem Ch.new_ok{s:SetupV}(h:s.Ok)(m:s.may):(Ch.new s).Ok:=by
 obtain⟨v,w,y,_,_⟩:=m;have o:=h.ours;have t:=h.cap;refine⟨h,⟨Int.le_refl _,show (0:Int)≤65535 by decide⟩,⟨Int.le_refl _,show (0:Int)<4294967296 by decide⟩,⟨Int.le_refl _,show (0:Int)<18446744073709551616 by decide⟩,⟨Int.le_refl _,show (0:Int)<18446744073709551616 by decide⟩,o,?_,?_,Nat.zero_le _,⟨rfl,?_⟩,?_,?_,⟨Nat.zero_le _,Nat.zero_le _⟩⟩
 ·show 0≤s.cap-s.ours∧s.cap-s.ours<_;omega
 ·intro x i;cases i
 ·intro p q;rw[List.eq_of_mem_replicate q];rfl
 ·intro x i;cases i
 ·intro x i;cases i
theorem q61{w:World}{g:Nat}{s:SetupV}(h:ChR w g (.new s))(o:s.Ok)(m:s.may):ChS w g (· = g) (Ch.new s):=by
 refine⟨qcb,qcb,qcb,h.at_,Ch.new_ok o m,World.ownsRow_nil _ _ _ _,World.ownsRow_nil _ _ _ _,World.ownsRow_nil _ _ _ _,rfl,?_,?_,?_,?_,?_⟩
 ·intro k i;simp[qcb,Value.ownBlock] at i
 ·intro k i;simp[qcb,Value.ownBlock] at i
 ·intro k i;simp[qcb,Value.ownBlock] at i
 ·intro k i;simp[qcb,Value.ownBlock] at i
 ·intro k i;rw[i];exact zi h.at_
def ql8(w:World)(m:Nat)(o:Obj):World:= {w with heap:=w.heap.setIfInBounds m o}
theorem qnw(w:World)(m:Nat)(o:Obj):Upd (· = m) w (ql8 w m o):=by
 refine⟨rfl,rfl,rfl,by simp[ql8],fun k _ i=> ?_⟩;show (w.heap.setIfInBounds m o)[k]? = w.heap[k]?;rw[Array.getElem?_setIfInBounds_ne (fun e=>i e.symm)]
theorem q5f(w:World)(m:Nat)(a b:Int)(v:Value)(h:EmM w m):(Instr.mapUpdate 155 (.map (some m)) (.agg #[.int .i64 a,.int .u64 b]) v).run Tryz.prog w = .ok () (ql8 w m (.map #[{key:= .agg #[.int .i64 a,.int .u64 b],val:=v,born:=0}] 1)):=by
 have i:w.heap[m]? = some (.map #[] 0):=h;have t:Instr.findNow (.struct #[]) (.agg #[.int .i64 a,.int .u64 b]) ([]:List MapEntry) 0=some none:=rfl;have o:(Instr.checkKey false 10000 208 (.agg #[.int .i64 a,.int .u64 b])).run Tryz.prog w = .ok () w:=by kernel_rfl
 have q:(Instr.findKey 208 (.agg #[.int .i64 a,.int .u64 b]) []).run Tryz.prog w = .ok none w:=MapKept.run_findKey Tryz.underlying208 rfl;simp[Instr.mapUpdate,run_underlying Tryz.underlying155,MapKept.run_getObj_map i,o,q,MapKept.run_setObj_map _ i,Result.andThen,ql8]
structure NodS(w:World)(g:Nat)(N:NodeV)(R:RelV)(ch:Int)(k:Nat)(S:Nat→Prop)(L:Lk)(m:Nat):Prop where
 no:NoR w g N
 re:ReR w N.re R
 row:w.ownsRow R.bs 159 2 R.peers 1 [.int .u32 ch,qr8 k]
 lk:LkS w k S L
 bsle:R.bs≤w.heap.size
 pay:R.payments=qo6 m
 gS:¬S g
 rS:¬S N.re
 bS:∀b,R.peers.ownBlock=some b→¬S b
 mS:¬S m
 mlt:m<w.heap.size
section
variable {w w':World}{g:Nat}{N:NodeV}{R:RelV}{ch:Int}{k:Nat}{S T:Nat→Prop}{L L':Lk}{m:Nat}
theorem NodS.toI(h:NodS w g N R ch k S L m):∃t i,NodI w g N R [⟨ch,k,t,i⟩]∧ChI w t.en i L.c.xs∧i.setup=L.c.s∧i.loc=L.c.loc∧i.rem=L.c.rem∧i.k=L.c.k∧L.c.Ok:=by
 obtain⟨sp,en,lo,y,z,q⟩:=h.lk;obtain⟨a,b,d,o⟩:=q.chn;refine⟨L.v sp en lo,L.c.v a b d,⟨h.no,h.re,h.row,?_,h.bsle⟩,o.toI,rfl,rfl,rfl,rfl,o.ok⟩;intro p x;rw[List.mem_singleton.1 x];exact⟨q.at_,o.toR⟩
theorem NodS.new(h:NodS w g N R ch k S L m)(u:qq w w'):NodS w' g N R ch k S L m :=
 ⟨u.old h.no (fun h=>h),u.old h.re (fun h=>h),qcg h.row u,h.lk.new u,Nat.le_trans h.bsle u.size,h.pay,h.gS,h.rS,h.bS,h.mS,Nat.lt_of_lt_of_le h.mlt u.size⟩
theorem NodS.link(h:NodS w g N R ch k S L m)(u:Upd S w w')(v:LkS w' k (Fr S w w') L'):NodS w' g N R ch k (Fr S w w') L' m:=by
 have i:∀k,k<w.heap.size→¬S k→¬Fr S w w' k:=fun k y x e=>e.elim x (fun e=>by omega)
 have o:∀b,R.peers.ownBlock=some b→b<w.heap.size:=fun b o=>by
  obtain⟨q,t⟩:=zv h.row b o;exact zi t
 exact⟨u.old h.no h.gS,u.old h.re h.rS,zc h.row u (fun b e=>h.bS b e),v,Nat.le_trans h.bsle u.size,h.pay,i _ (zi h.no) h.gS,i _ (zi h.re) h.rS,fun b e=>i _ (o b e) (h.bS b e),i _ h.mlt h.mS,Nat.lt_of_lt_of_le h.mlt u.size⟩
theorem qr4{w:World}{i m:Nat}{cs:Array Value}{T:TypeId}{z:Nat × Nat}{es:Array MapEntry}{cl:Nat}(h:w.heap[i]? = some (.cells cs T z))(o:w.heap[m]? = some (.map es cl)):i≠m:=by
 rintro rfl;rw[h] at o;cases o
theorem NodS.paid(h:NodS w g N R ch k S L m)(i:EmM w m)(o:Obj):NodS (ql8 w m o) g N R ch k S L m:=by
 have u:=qnw w m o;refine⟨u.old h.no (qr4 h.no i),u.old h.re (qr4 h.re i),zc h.row u (fun b e=> ?_),h.lk.upd u (fun k v e=>h.mS (e▸v)),Nat.le_trans h.bsle u.size,h.pay,h.gS,h.rS,h.bS,h.mS,Nat.lt_of_lt_of_le h.mlt u.size⟩;obtain⟨q,t⟩:=zv h.row b e;exact qr4 t i
end
theorem NodS.later{w y z w':World}{g:Nat}{N t:NodeV}{R:RelV}{ch:Int}{k:Nat}{S:Nat→Prop}{L L':Lk}{m:Nat}(i:NodS w g N R ch k S L m)(h:NodS w' g t R ch k (Fr S y z) L' m)(x:t.re=N.re)(I:w.heap.size≤y.heap.size)(J:z.heap.size≤w'.heap.size):NodS w' g t R ch k (Fr S w w') L' m:=by
 have o:∀k,k<w.heap.size→¬S k→¬Fr S w w' k:=fun k q H e=>e.elim H (fun e=>by omega)
 have v:∀b,R.peers.ownBlock=some b→b<w.heap.size:=fun b v=>by
  obtain⟨C,D⟩:=zv i.row b v;exact zi D
 have E:=h.lk.lt;exact⟨h.no,h.re,h.row,h.lk.wider (fun k q=>q.elim .inl (fun e=> .inr ⟨by omega,by omega⟩)) (fun k q=>q.elim (fun e=>E k (.inl e)) (fun e=>e.2)),h.bsle,h.pay,o _ (zi i.no) i.gS,o _ (by rw[x];exact zi i.re) (by rw[x];exact i.rS),fun b e=>o _ (v b e) (i.bS b e),o _ i.mlt i.mS,h.mlt⟩
structure PayOk(w:World)(L:Lk)(n x:Nat)(h:List Int):Prop where
 ok:LkOk L
 len:h.length=32
 bytes:qbt h
 n8:n<2 ^ (8*8)
 x4:x<2 ^ (8*4)
 few:L.c.news.length<1000000∧L.c.xs.length<1000000
 say:(L.c.offer n (qbq h) x).2.2=0→SayOk (L.c.offer n (qbq h) x).2.1
 mlen:(L.c.offer n (qbq h) x).2.1.hash.length=32
 tb:Tabs w
theorem PayOk.new{w w':World}{L:Lk}{n x:Nat}{h:List Int}(p:PayOk w L n x h)(u:qq w w'):PayOk w' L n x h:=⟨p.ok,p.len,p.bytes,p.n8,p.x4,p.few,p.say,p.mlen,p.tb.new u⟩
attribute [local go_sem ↓ high] zl qaf qah
attribute [local go_sem] qa9 qb3 qb7 qy q5f
end
section
open Go.RowKit
theorem Tryz.flatPk:qb4 Tryz.prog 5 208=some [.int .i64,.int .u64]:=by kernel_rfl
theorem Tryz.eqPkB:eqB Tryz.prog 5 208=true:=by kernel_rfl
theorem Tryz.aggPk:qfw Tryz.prog 208=true:=by kernel_rfl
def pkV(a b:Int):Value:= .agg #[.int .i64 a,.int .u64 b]
structure PkOk(a b:Int):Prop where
 a:(Lit.int .i64 a).wf=true
 b:(Lit.int .u64 b).wf=true
theorem PkOk.fits{a b:Int}(h:PkOk a b):qcs [.int .i64,.int .u64] [.int .i64 a,.int .u64 b]:=⟨_,_,rfl,⟨_,rfl,h.a⟩,_,_,rfl,⟨_,rfl,h.b⟩,rfl⟩
theorem q1d{a b c d:Int}(i:PkOk a b)(m:PkOk c d)(w:World):(Op.equal 208 (pkV a b) (pkV c d)).run Tryz.prog w = .ok (decide (a=c∧b=d)) w:=by
 have h:=qd9 (P:=Tryz.prog) 5 10000 208 [.int .i64,.int .u64] [.int .i64 a,.int .u64 b] [.int .i64 c,.int .u64 d] (by decide) Tryz.eqPkB Tryz.flatPk i.fits m.fits (decide (a=c∧b=d)) (by simp) w;have e:∀xs:List Value,mkV Tryz.prog 208 xs = .agg xs.toArray:=fun xs=>by unfold mkV;rw[if_pos Tryz.aggPk]
 rw[e,e] at h;exact h
def q8h(l:List MapEntry):Prop:=∀e∈l,∃a b,PkOk a b∧e.key=pkV a b
theorem qob{a b:Int}(h:PkOk a b)(w:World):∀(l:List MapEntry),q8h l→∀i,∃r,(Instr.findAsking 208 (pkV a b) l i).run Tryz.prog w = .ok r w∧∀j v,r=some (j,v)→∃n e,j=i+n∧l[n]? = some e∧e.key=pkV a b
 | [],_,i=>⟨none,rfl,fun j v e=>by cases e⟩
 | e::l,z,i=>by
  obtain⟨c,d,q,t⟩:=z e (List.mem_cons_self ..);have y:=q1d h q w;obtain⟨r,E,H⟩:=qob h w l (fun x I=>z x (List.mem_cons_of_mem _ I)) (i+1);by_cases o:a=c∧b=d
  ·refine⟨some (i,e.val),?_,fun j v m=> ?_⟩
   ·unfold Instr.findAsking;rw[t,Sem.run_bind,y,decide_eq_true o];rfl
   ·injection m with m;injection m with e1 e2;exact⟨0,e,by omega,rfl,by rw[t,o.1,o.2]⟩
  ·refine⟨r,?_,fun j v m=> ?_⟩
   ·unfold Instr.findAsking;rw[t,Sem.run_bind,y,decide_eq_false o];exact E
   ·obtain⟨n,C,J,q,D⟩:=H j v m;exact⟨n+1,C,by omega,by rw[List.getElem?_cons_succ];exact q,D⟩
def qis(w:World)(m:Nat):Prop:=∃es cl,w.heap[m]? = some (.map es cl)∧q8h es.toList
theorem qis.lt{w:World}{m:Nat}(h:qis w m):m<w.heap.size:=by
 obtain⟨es,cl,h,-⟩:=h;exact(Array.getElem?_eq_some_iff.1 h).1
theorem qis.upd{S:Nat→Prop}{w w':World}{m:Nat}(h:qis w m)(u:Upd S w w')(o:¬S m):qis w' m:=by
 obtain⟨es,cl,h,i⟩:=h;exact⟨es,cl,u.old h o,i⟩
theorem qis.new{w w':World}{m:Nat}(h:qis w m)(u:qq w w'):qis w' m:=h.upd u (fun h=>h)
theorem qis.of_em{w:World}{m:Nat}(h:EmM w m):qis w m:=⟨#[],0,h,fun e i=>by cases i⟩
theorem q70(a b:Int)(w:World):(Instr.keyThatStays (pkV a b) (pkV a b)).run Tryz.prog w = .ok (pkV a b) w:=by
 have h:Instr.sameBits 10000 (pkV a b) (pkV a b)=true:=by
  show (Instr.sameBits 9999 _ _&&(Instr.sameBits 9999 _ _&&true))=true;simp[Instr.sameBits]
 unfold Instr.keyThatStays;rw[if_pos h];rfl
theorem q1e{w:World}{m:Nat}{a b:Int}(Z:qis w m)(h:PkOk a b):∃f:Value→Obj,∀v,(Instr.mapUpdate 155 (.map (some m)) (.agg #[.int .i64 a,.int .u64 b]) v).run Tryz.prog w = .ok () (ql8 w m (f v))∧qis (ql8 w m (f v)) m:=by
 obtain⟨es,cl,C,H⟩:=Z;have N:=(Array.getElem?_eq_some_iff.1 C).1;have q:∀o,(ql8 w m o).heap[m]? = some o:=fun o=>by
  show (w.heap.setIfInBounds m o)[m]? = some o;rw[Array.getElem?_setIfInBounds_self_of_lt N]
 have U:(Instr.checkKey false 10000 208 (.agg #[.int .i64 a,.int .u64 b])).run Tryz.prog w = .ok () w:=by kernel_rfl
 have y:∃r,(Instr.findKey 208 (.agg #[.int .i64 a,.int .u64 b]) es.toList).run Tryz.prog w = .ok r w∧∀j v,r=some (j,v)→∃e,es[j]? = some e∧e.key=pkV a b:=by
  cases t:es.toList with
  | nil =>
   refine⟨none,MapKept.run_findKey Tryz.underlying208 rfl,fun j v e=>by cases e⟩
  | cons e l =>
   obtain⟨r,I,O⟩:=qob h w (e::l) (by rw[←t];exact H) 0;refine⟨r,?_,fun j v W=> ?_⟩
   ·obtain⟨c,d,T,M⟩:=H e (by rw[t];exact List.mem_cons_self ..);have hn:∀R,Instr.findNow (.struct R) (.agg #[.int .i64 a,.int .u64 b]) (e::l) 0=none:=fun R=>by
     unfold Instr.findNow;rw[M];rfl
    unfold Instr.findKey;rw[Sem.run_bind,run_underlying Tryz.underlying208];simp only[Result.andThen_ok,hn];exact I
   ·obtain⟨n,E,X,T,Y⟩:=O j v W;refine⟨E,?_,Y⟩;rw[←Array.getElem?_toList,t,X,Nat.zero_add];exact T
 obtain⟨r,I,O⟩:=y;cases r with
 | none =>
  refine⟨fun v=> .map (es.push {key:= .agg #[.int .i64 a,.int .u64 b],val:=v,born:=cl}) (cl+1),fun v=>⟨?_,?_⟩⟩
  ·simp[Instr.mapUpdate,run_underlying Tryz.underlying155,MapKept.run_getObj_map C,U,I,MapKept.run_setObj_map _ C,Result.andThen,ql8]
  ·refine⟨_,_,q _,fun e z=> ?_⟩;rw[Array.toList_push,List.mem_append,List.mem_singleton] at z;rcases z with z | rfl
   ·exact H e z
   ·exact⟨a,b,h,rfl⟩
 | some x =>
  obtain⟨j,v0⟩:=x;obtain⟨e,z,M⟩:=O j v0 rfl;have P:=q70 a b w;have D:(Instr.keyThatStays e.key (.agg #[.int .i64 a,.int .u64 b])).run Tryz.prog w = .ok (pkV a b) w:=by rw[M];exact P
  refine⟨fun v=> .map (es.modify j fun e=> {e with key:=pkV a b,val:=v}) cl,fun v=>⟨?_,?_⟩⟩
  ·simp[Instr.mapUpdate,run_underlying Tryz.underlying155,MapKept.run_getObj_map C,U,I,z,D,MapKept.run_setObj_map _ C,Result.andThen,ql8]
  ·refine⟨_,_,q _,fun E J=> ?_⟩;obtain⟨i,V,K⟩:=List.mem_iff_getElem.1 J;rw[Array.length_toList,Array.size_modify] at V;have:(es.modify j fun e=> {e with key:=pkV a b,val:=v})[i]? = some E:=by
    rw[←Array.getElem?_toList,List.getElem?_eq_getElem (by simpa using V),K]
   rw[Array.getElem?_modify] at this;split at this
   ·obtain⟨e0,-,rfl⟩:=Option.map_eq_some_iff.1 this;exact⟨a,b,h,rfl⟩
   ·exact H E (by rw[←Array.getElem?_toList] at this;exact List.mem_of_getElem? this)
end
end Go.Proofs.YtfmkdoachjgjbaaGreatDoor
