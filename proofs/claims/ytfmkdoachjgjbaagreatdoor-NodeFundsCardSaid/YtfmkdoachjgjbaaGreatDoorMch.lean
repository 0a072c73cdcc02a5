/-
  relay.Add.
-/
import Derived.Test.YtfmkdoachjgjbaaGreatDoorMcg
import Derived.Deep.AppendLies
import Derived.Test.YtfmkdoachjgjbaaGreatDoorTxt
import Derived.Test.YtfmkdoachjgjbaaGreatDoorMag
import Derived.Deep.Onto
set_option maxRecDepth 100000
set_option maxHeartbeats 4000000
set_option linter.unusedVariables false
set_option linter.unusedSimpArgs false
namespace Go.Proofs.YtfmkdoachjgjbaaGreatDoor
section
open Go.RowKit
theorem qjy{S:Nat→Prop}{w w':World}{base:Nat}{e:TypeId}{size:Nat}{v:Value}{n:Nat}{xs:List Value}(h:w.ownsRow base e size v n xs)(u:Upd S w w')(q:∀k,v.ownBlock=some k→¬S k):w'.ownsRow base e size v n xs:=by
 refine⟨h.1,?_⟩;rcases h.2 with h | ⟨g,cap,i,m,o,t,r⟩
 ·exact .inl h
 ·exact .inr ⟨g,cap,i,m,o,u.old t (q g (by rw[m];rfl)),r⟩
theorem qjr{w:World}{base:Nat}{e:TypeId}{size:Nat}{v:Value}{n:Nat}{xs:List Value}(h:w.ownsRow base e size v n xs):∀k,v.ownBlock=some k→∃i,w.heap[k]? = some (.cells i e (0,0)):=by
 intro k m;rcases h.2 with ⟨rfl,_⟩ | ⟨g,cap,i,rfl,q,o,_⟩
 ·simp[Value.ownBlock] at m
 ·simp[Value.ownBlock] at m;exact⟨i,m▸o⟩
theorem qa3{w:World}{k j:Nat}{c d:Array Value}{T U:TypeId}{x y:Nat × Nat}(h:w.heap[k]? = some (.cells c T x))(g:w.heap[j]? = some (.cells d U y))(n:T≠U):k≠j:=by
 rintro rfl;rw[h] at g;injection g with g;injection g with _ g;exact n g
theorem RelI.upd{S:Nat→Prop}{w w':World}{r:Nat}{R:RelV}{ps:List PeerV}(h:RelI w r R ps)(u:Upd S w w')(q:¬S r)(o:∀k,R.peers.ownBlock=some k→¬S k)(m:∀p∈ps,¬S p.lk∧¬S p.l.en):RelI w' r R ps:=by
 refine⟨u.old h.at_ q,qjy h.row u o,fun p i=>⟨u.old (h.links p i).1 (m p i).1,(h.links p i).2.upd u (m p i).2⟩,Nat.le_trans h.bsle u.size⟩
theorem RelI.new{w w':World}{r:Nat}{R:RelV}{ps:List PeerV}(h:RelI w r R ps)(u:qq w w'):RelI w' r R ps:=h.upd u (fun h=>h) (fun _ _ h=>h) (fun _ _=>⟨fun h=>h,fun h=>h⟩)
theorem RelI.own{w:World}{r:Nat}{R:RelV}{ps:List PeerV}(h:RelI w r R ps){k:Nat}(i:R.peers.ownBlock=some k):R.bs≤k:=by
 rcases h.row.2 with ⟨e,_⟩ | ⟨g,cap,m,e,o,_⟩
 ·rw[e] at i;simp[Value.ownBlock] at i
 ·rw[e] at i;simp[Value.ownBlock] at i;omega
theorem NewL.upd{S:Nat→Prop}{w w':World}{B A g:Nat}{s:SetupV}{l:LinkV}(h:NewL w B g s l)(u:Upd S w w')(i:A≤B)(n:¬S g∧¬S l.sp∧¬S l.en∧¬S l.lo):NewL w' A g s l :=
 ⟨h.isNew,u.old h.lk n.1,u.old h.sp n.2.1,h.ch.upd u n.2.2.1,u.old h.jo n.2.2.2,⟨by have:=h.ge.1;omega,by have:=h.ge.2.1;omega,by have:=h.ge.2.2.1;omega,by have:=h.ge.2.2.2;omega⟩,h.ne⟩
theorem NewL.new{w w':World}{B g:Nat}{s:SetupV}{l:LinkV}(h:NewL w B g s l)(u:qq w w'):NewL w' B g s l :=
 ⟨h.isNew,u.old h.lk (fun h=>h),u.old h.sp (fun h=>h),h.ch.new u,u.old h.jo (fun h=>h),h.ge,h.ne⟩
theorem Tryz.infoPeer:((Tryz.prog.info? 159).map fun i=>(i.size,i.bytes,i.zero.map fun z=>z.cells.toList))=some (2,16,some [.int .u32 0,.pointer none]):=by kernel_rfl
theorem q00:∃i z,Tryz.prog.info? 159=some i∧i.zero=some z∧i.size=2∧i.bytes=16∧z.cells.size=2:=by
 have h:=Tryz.infoPeer;cases o:Tryz.prog.info? 159 with
 | none=>rw[o] at h;simp at h
 | some i =>
  rw[o,Option.map_some,Option.some.injEq,Prod.mk.injEq,Prod.mk.injEq] at h;cases m:i.zero with
  | none=>rw[m] at h;simp at h
  | some z =>
   rw[m,Option.map_some,Option.some.injEq] at h;refine⟨i,z,rfl,m,h.1,h.2.1,?_⟩;rw[←Array.length_toList,h.2.2];rfl
attribute [local go_sem ↓ high] qed
attribute [local go_sem] qji
theorem q6o(r:Nat)(R:RelV)(ps:List PeerV)(s:SetupV)(hs:s.Ok)(w:World)(h:RelI w r R ps)(hl:ps.length≤1048576) :
  Calls Tryz.prog 78 #[.pointer (some ⟨r,0,none⟩),.agg s.cells.toArray] w fun e w' =>
   (R.drains=true∧e = .returned (.tuple #[.int .i64 0,.int .i64 200])∧qq w w') ∨
   (R.drains=false∧8≤ps.length∧e = .returned (.tuple #[.int .i64 0,.int .i64 2])∧qq w w') ∨
   (R.drains=false∧ps.length<8∧(∃p∈ps,p.ch=s.ch)∧e = .returned (.tuple #[.int .i64 0,.int .i64 4])∧qq w w') ∨
   (R.drains=false∧ps.length<8∧(∀p∈ps,p.ch≠s.ch)∧¬s.may∧e = .returned (.tuple #[.int .i64 0,.int .i64 1])∧qq w w') ∨
   (R.drains=false∧ps.length<8∧(∀p∈ps,p.ch≠s.ch)∧s.may∧e = .returned (.tuple #[.int .i64 ps.length,.int .i64 0]) ∧
    ∃v g l,NewL w' w.heap.size g s l∧RelI w' r {R with peers:=v} (ps++[⟨s.ch,g,l,.new s⟩])∧Upd (fun k=>k=r∨R.peers.ownBlock=some k) w w'∧∀k,v.ownBlock=some k→R.peers.ownBlock=some k∨w.heap.size≤k):=by
 have K:w.cell? ⟨r,1,none⟩=some R.peers:=qk h.at_ 1
 have W:w.cell? ⟨r,6,none⟩=some (.bool R.drains):=qk h.at_ 6
 obtain⟨a,cap,i⟩:=h.shape
 rw[i] at K
 have c2:(ps.length:Int)≤1048576:=by omega
 go_enter Tryz.func78,Tryz.ntmps78
 go_upto_region 1 with fail
 have N:qgs (w.alloc (.cells s.cells.toArray 78)) w.heap.size s:=ql _ _
 have n0:qq w (w.alloc (.cells s.cells.toArray 78)):=(Upd.refl _ _).alloc _
 generalize w.alloc (.cells s.cells.toArray 78)=w1 at N n0 ⊢
 have C:=N.row hs.seed
 have T:w1.cell? ⟨w.heap.size,0,none⟩=some (.int .u32 s.ch):=N.cell 0
 replace K:=n0.cell K (fun h=>h)
 replace W:=n0.cell W (fun h=>h)
 replace h:=h.new n0
 cases hd:R.drains with
 | true =>
  rw[hd] at W;clear h;go_wp2_with fail;go_ret2;exact .inl ⟨hd,rfl,n0⟩
 | false =>
 rw[hd] at W
 by_cases h8:8≤ps.length
 ·have a8:8≤(ps.length:Int):=by omega
  clear h;go_wp2_with fail;go_ret2;exact .inr (.inl ⟨hd,h8,rfl,n0⟩)
 have a8:¬8≤(ps.length:Int):=by omega
 have H:=qj h
 go_wp2_with fail
 refine(qvq r R ps w1 h s.ch hl).mono ?_
 rintro e w2 ⟨⟨p,E,a2,rfl⟩ | ⟨a1,rfl⟩,D⟩
 ·replace D:=n0.trans D;have HP:=qj E;have HC:=qj a2;clear E a2 n0 K W T C N h;go_wp2_with fail;go_ret2;exact .inr (.inr (.inl ⟨hd,by omega,⟨p,qg HP,qg HC⟩,rfl,D⟩))
 replace N:=N.new D
 replace K:=D.cell K (fun h=>h)
 replace T:=D.cell T (fun h=>h)
 replace h:=h.new D
 replace C:=N.row hs.seed
 replace D:=n0.trans D
 have Y:=qj a1
 clear n0 W H a1
 have HB:=qj N
 have H:=qj h
 clear h N
 go_wp2_with fail
 refine(q4v s hs w2).mono ?_
 rintro e V (⟨hm,g,l,rfl,M,J⟩ | ⟨hm,rfl,J⟩)
 case' inr =>
  replace J:=D.trans J;have HM:=qj hm;clear hm D K T C HB;go_wp2_with fail;go_ret2;exact .inr (.inr (.inr (.inl ⟨hd,by omega,qg Y,qg HM,rfl,J⟩)))
 replace K:=J.cell K (fun h=>h)
 replace T:=J.cell T (fun h=>h)
 have h:=(qg H).new J
 have hz:=D.size
 replace J:=D.trans J
 have hr:=zi h.at_
 have HM:=qj hm
 clear H hm D C HB
 obtain⟨i9,z9,hi,b8,b4,b5,b6⟩:=q00
 have e1:=qo h.at_ 1
 have z:=h.row
 rw[i] at z
 have m:∀k,(Value.slice a ps.length cap).ownBlock=some k→k≠r∧k≠g∧k≠l.sp∧k≠l.en∧k≠l.lo∧∀p∈ps,k≠p.lk∧k≠p.l.en:=by
  intro k q;obtain⟨a7,O⟩:=qjr z k q;exact⟨qa3 O h.at_ (by decide),qa3 O M.lk (by decide),qa3 O M.sp (by decide),qa3 O M.ch.at_ (by decide),qa3 O M.jo (by decide),fun p E=>⟨qa3 O (h.links p E).1 (by decide),qa3 O (h.links p E).2.at_ (by decide)⟩⟩
 have X:=qj m
 have HO:=qj z
 have HH:=qj h
 clear h z m
 go_wp2_with fail
 go_region_law
  ((refine step_append_lies _ (by rfl) _ _ _ (by rfl) R.bs 159 i9 _ 2 16 Tryz.underlying152 hi b8 b4 b5 b6 (by decide) (.slice a ps.length cap) ps.length (ps.flatMap PeerV.cells) (by rfl) (qjy (qg HO) (((Upd.refl (fun _=>False) V).alloc _).drew) (fun _ _ h=>h))
     ⟨V.heap.size,0,none⟩ 1 1 [.int .u32 s.ch,.pointer (some ⟨g,0,none⟩)] (by rfl) (by rfl) (World.news_of_block (cs:=#[.int .u32 s.ch,.pointer (some ⟨g,0,none⟩)]) (t:=159) (fr:=(0,0)) (heap_alloc_new V _)) (by simp[Value.oneCell'])
     (by decide) (by unfold maxLen;omega) (by omega) (by simp;have:=(qg HH).bsle;omega) (V.heap.size+1) (by simp) ?_;intro gg o w4 y x Z b9;have k3:=(x.block r (by simp;omega) (fun e=>((qg X) r e.symm).1 rfl)).trans (qx (qg HH).at_ _);have q1:=qk k3 1;have q2:=qo k3 1;simp[RelV.cells] at q1))
 all_goals
  have k5:=zq k3 1 (.slice (some ⟨gg,0,none⟩) (ps.length+1) o);have u4:Upd (fun k=>(Value.slice a ps.length cap).ownBlock=some k) V w4:=(((Upd.refl _ V).alloc _).drew).grown x (fun k e _=>e);have u5:Upd (fun k=>k=r) w4 (w4.setCell ⟨r,1,none⟩ (.slice (some ⟨gg,0,none⟩) (ps.length+1) o)):=(Upd.refl _ _).set1 _ _;have c0:gg≠r:=by
   obtain⟨a7,O⟩:=qjr y gg rfl;exact qa3 O k3 (by decide)
  have I:=qjy y u5 (fun k q=>by simp[Value.ownBlock] at q;omega);have HN:=qj I;have b7:=J.size;have P:∀k,(Value.slice (some ⟨gg,0,none⟩) (ps.length+1) o).ownBlock=some k→R.peers.ownBlock=some k∨w.heap.size≤k:=fun k q=>by
   have q:gg=k:=by simpa [Value.ownBlock] using q
   rw[i,←q];exact Z.imp id (fun e=>by omega)
  have a6:=qj P;clear y I x Z P b7 k3 q1 q2 K T;generalize w4.setCell ⟨r,1,none⟩ (.slice (some ⟨gg,0,none⟩) (ps.length+1) o)=w5 at *
  have d1:=qk k5 1;simp[RelV.cells] at d1;go_wp2_with fail;go_ret2;have h:=qg HH;have m:=qg X;have u:Upd (fun k=>k=r∨R.peers.ownBlock=some k) V w5:=(u4.mono (fun k _ q=>Or.inr (by rw[i];exact q))).trans (u5.mono (fun k _ q=>Or.inl q));have b1:¬(g=r∨R.peers.ownBlock=some g):=by
   rw[i];rintro (e | e)
   ·exact qa3 M.lk h.at_ (by decide) e
   ·exact(m g e).2.1 rfl
  have b3:¬(l.sp=r∨R.peers.ownBlock=some l.sp):=by
   rw[i];rintro (e | e)
   ·exact qa3 M.sp h.at_ (by decide) e
   ·exact(m _ e).2.2.1 rfl
  have b0:¬(l.en=r∨R.peers.ownBlock=some l.en):=by
   rw[i];rintro (e | e)
   ·exact qa3 M.ch.at_ h.at_ (by decide) e
   ·exact(m _ e).2.2.2.1 rfl
  have b2:¬(l.lo=r∨R.peers.ownBlock=some l.lo):=by
   rw[i];rintro (e | e)
   ·exact qa3 M.jo h.at_ (by decide) e
   ·exact(m _ e).2.2.2.2.1 rfl
  have U:NewL w5 w.heap.size g s l:=M.upd u hz ⟨b1,b3,b0,b2⟩;refine .inr (.inr (.inr (.inr ⟨hd,by omega,qg Y,qg HM,?_,.slice (some ⟨gg,0,none⟩) (ps.length+1) o,g,l,U,⟨?_,?_,?_,Nat.le_trans h.bsle u.size⟩,(J.mono (fun _ _ h=>h.elim)).trans u,qg a6⟩)))
  ·rfl
  ·exact k5
  ·have:=qg HN;rw[List.flatMap_append,List.length_append];exact this
  ·intro p E;rcases List.mem_append.1 E with E | E
   ·have q:=h.links p E;refine⟨u.old q.1 ?_,q.2.upd u ?_⟩
    ·rw[i];rintro (e | e)
     ·exact qa3 q.1 h.at_ (by decide) e
     ·exact((m _ e).2.2.2.2.2 p E).1 rfl
    ·rw[i];rintro (e | e)
     ·exact qa3 q.2.at_ h.at_ (by decide) e
     ·exact((m _ e).2.2.2.2.2 p E).2 rfl
   ·obtain rfl:=List.mem_singleton.1 E;exact⟨U.lk,U.ch⟩
end
section
open Go.RowKit
theorem q73(a b:Int)(i:0≤a∧a<18446744073709551616)(m:0≤b∧b<18446744073709551616)(w:World):Calls Tryz.prog 77 #[.int .u64 a,.int .u64 b] w (qae (.tuple (if a<b then #[.int .u64 0,.int .i64 61] else #[.int .u64 (a-b),.int .i64 0])) w):=by
 go_enter Tryz.func77,Tryz.ntmps77;obtain⟨a0,o⟩:=i;obtain⟨q,t⟩:=m;by_cases h:a<b
 ·rw[if_pos h];go_wp2_with fail;go_ret2;exact⟨rfl,Q.refl _⟩
 ·have v:IntKind.u64.wrap (a-b)=a-b:=by rw[IntKind.wrap_u64];omega
  rw[if_neg h];go_wp2_with fail;go_ret2;exact⟨rfl,Q.refl _⟩
noncomputable def qcj(R:RelV)(ps:List PeerV)(s:SetupV):Int :=
 open Classical in if R.drains = true then 200 else if 8 ≤ ps.length then 2 else if ∃ p ∈ ps, p.ch = s.ch then 4 else if s.may then 0 else 1
noncomputable def qq5(R:RelV)(ps:List PeerV)(s:SetupV):Int:=if qcj R ps s=0 then ps.length else 0
def q8e(w w':World)(r:Nat)(R:RelV)(ps:List PeerV)(s:SetupV):Prop :=
 (qcj R ps s≠0→qq w w')∧(qcj R ps s=0→∃v g l,NewL w' w.heap.size g s l∧RelI w' r {R with peers:=v} (ps++[⟨s.ch,g,l,.new s⟩])∧Upd (fun k=>k=r∨R.peers.ownBlock=some k) w w'∧∀k,v.ownBlock=some k→R.peers.ownBlock=some k∨w.heap.size≤k)
theorem q9h(r:Nat)(R:RelV)(ps:List PeerV)(s:SetupV)(y:s.Ok)(w:World)(h:RelI w r R ps)(x:ps.length≤1048576) :
  Calls Tryz.prog 78 #[.pointer (some ⟨r,0,none⟩),.agg s.cells.toArray] w fun e w'=>e = .returned (.tuple #[.int .i64 (qq5 R ps s),.int .i64 (qcj R ps s)])∧q8e w w' r R ps s:=by
 refine(q6o r R ps s y w h x).mono ?_
 unfold q8e qq5
 rintro e w' (⟨i,rfl,n⟩ | ⟨i,o,rfl,n⟩ | ⟨i,o,m,rfl,n⟩ | ⟨i,o,m,q,rfl,n⟩ | ⟨i,o,m,q,rfl,n⟩)
 ·have e:qcj R ps s=200:=by unfold qcj;rw[if_pos i]
  rw[e];exact⟨rfl,fun _=>n,fun h=>absurd h (by decide)⟩
 ·have e:qcj R ps s=2:=by unfold qcj;rw[if_neg (by simp[i]),if_pos o]
  rw[e];exact⟨rfl,fun _=>n,fun h=>absurd h (by decide)⟩
 ·have e:qcj R ps s=4:=by unfold qcj;rw[if_neg (by simp[i]),if_neg (by omega),if_pos m]
  rw[e];exact⟨rfl,fun _=>n,fun h=>absurd h (by decide)⟩
 ·have e:qcj R ps s=1:=by unfold qcj;rw[if_neg (by simp[i]),if_neg (by omega),if_neg (by rintro ⟨p,v,t⟩;exact m p v t),if_neg q]
  rw[e];exact⟨rfl,fun _=>n,fun h=>absurd h (by decide)⟩
 ·have e:qcj R ps s=0:=by unfold qcj;rw[if_neg (by simp[i]),if_neg (by omega),if_neg (by rintro ⟨p,v,t⟩;exact m p v t),if_pos q]
  rw[e];exact⟨rfl,fun h=>absurd rfl h,fun _=>n⟩
noncomputable def qbh(N:NodeV)(R:RelV)(ps:List PeerV)(s:SetupV):Int :=
 if N.drains=true then 200 else if s.cap<s.ours then 1 else if N.funds<s.ours then 61 else qcj R ps s
noncomputable def qdn(N:NodeV)(R:RelV)(ps:List PeerV)(s:SetupV):Int:=if qbh N R ps s=0 then ps.length else 0
structure NodI(w:World)(g:Nat)(N:NodeV)(R:RelV)(ps:List PeerV):Prop where
 at_:NoR w g N
 re:RelI w N.re R ps
theorem NodI.new{w w':World}{g:Nat}{N:NodeV}{R:RelV}{ps:List PeerV}(h:NodI w g N R ps)(u:qq w w'):NodI w' g N R ps:=⟨u.old h.at_ (fun h=>h),h.re.new u⟩
attribute [local go_sem ↓ high] qed
attribute [local go_sem] qji qy
theorem qqe(g:Nat)(N:NodeV)(R:RelV)(ps:List PeerV)(s:SetupV)(hs:s.Ok)(w:World)(h:NodI w g N R ps)(hl:ps.length≤1048576)(hf:0≤N.funds∧N.funds<18446744073709551616) :
  Calls Tryz.prog 32 #[.pointer (some ⟨g,0,none⟩),.agg s.cells.toArray] w fun e w' =>
   e = .returned (.tuple #[.int .i64 (qdn N R ps s),.int .i64 (qbh N R ps s)])∧(qbh N R ps s≠0→qq w w') ∧
   (qbh N R ps s=0→∃v k l,NewL w' w.heap.size k s l∧NodI w' g {N with funds:=N.funds-s.ours} {R with peers:=v} (ps++[⟨s.ch,k,l,.new s⟩])∧Upd (fun k=>k=g∨k=N.re∨R.peers.ownBlock=some k) w w'∧∀k,v.ownBlock=some k→R.peers.ownBlock=some k∨w.heap.size≤k):=by
 have J:w.cell? ⟨g,0,none⟩=some (.pointer (some ⟨N.re,0,none⟩)):=qk h.at_ 0
 have K:w.cell? ⟨g,1,none⟩=some (.int .u64 N.funds):=qk h.at_ 1
 have V:w.cell? ⟨g,2,none⟩=some (.bool N.drains):=qk h.at_ 2
 go_enter Tryz.func32,Tryz.ntmps32
 go_upto_region 1 with fail
 have t:qgs (w.alloc (.cells s.cells.toArray 78)) w.heap.size s:=ql _ _
 have n0:qq w (w.alloc (.cells s.cells.toArray 78)):=(Upd.refl _ _).alloc _
 generalize w.alloc (.cells s.cells.toArray 78)=w1 at t n0 ⊢
 have d1:w1.cell? ⟨w.heap.size,1,none⟩=some (.int .u64 s.cap):=t.cell 1
 have d2:w1.cell? ⟨w.heap.size,2,none⟩=some (.int .u64 s.ours):=t.cell 2
 replace J:=n0.cell J (fun h=>h)
 replace K:=n0.cell K (fun h=>h)
 replace V:=n0.cell V (fun h=>h)
 replace h:=h.new n0
 have H:=qj h
 clear h
 cases hd:N.drains with
 | true =>
  have e:qbh N R ps s=200:=by unfold qbh;rw[if_pos hd]
  rw[hd] at V;have E:=qj e;clear e;go_wp2_with fail;go_ret2;unfold qdn;rw[qg E];exact⟨rfl,fun _=>n0,fun h=>absurd h (by decide)⟩
 | false =>
 rw[hd] at V
 by_cases h1:s.cap<s.ours
 ·have e:qbh N R ps s=1:=by unfold qbh;rw[if_neg (by simp[hd]),if_pos h1]
  have E:=qj e;clear e;go_wp2_with fail;go_ret2;unfold qdn;rw[qg E];exact⟨rfl,fun _=>n0,fun h=>absurd h (by decide)⟩
 have m:=q73 N.funds s.ours hf hs.ours
 by_cases W:N.funds<s.ours
 ·have e:qbh N R ps s=61:=by unfold qbh;rw[if_neg (by simp[hd]),if_neg h1,if_pos W]
  have E:=qj e;clear e;rw[if_pos W] at m;go_wp2_with ((with_reducible first|rfl|refine' ut ?_ ?_;rotate_left|refine' uu ?_)<;>intros);refine(m _).mono ?_;rintro e w2 ⟨rfl,x⟩;go_wp2_with ((with_reducible first|rfl|refine' ut ?_ ?_;rotate_left|refine' uu ?_)<;>intros);go_ret2;unfold qdn;rw[qg E];exact⟨rfl,fun _=>n0.trans (x.ofDrew.upd _),fun h=>absurd h (by decide)⟩
 have he:qbh N R ps s=qcj R ps s:=by unfold qbh;rw[if_neg (by simp[hd]),if_neg h1,if_neg W]
 rw[if_neg W] at m
 have Y:=qj he
 clear he
 go_wp2_with ((with_reducible first|rfl|refine' ut ?_ ?_;rotate_left|refine' uu ?_)<;>intros)
 refine(m _).mono ?_
 rintro e w2 ⟨rfl,x⟩
 replace n0:=n0.trans (x.ofDrew.upd _)
 replace d2:=x.ofDrew.cell d2
 replace J:=x.ofDrew.cell J
 replace K:=x.ofDrew.cell K
 have h:=(qg H).new (x.ofDrew.upd _)
 have P:=(t.new (x.ofDrew.upd _)).row hs.seed
 clear H x m
 have H:=qj h
 clear t
 have q:=q9h N.re R ps s hs w2.drew (h.re.new (Upd.refl _ _).drew) hl
 clear h
 go_wp2_with ((with_reducible first|rfl|refine' ut ?_ ?_;rotate_left|refine' uu ?_)<;>intros)
 refine q.mono ?_
 rintro e w3 ⟨rfl,ha,t⟩
 by_cases D:qcj R ps s=0
 ·obtain⟨v,k,l,hL,hR,u,o⟩:=t D;have z:∀k,v.ownBlock=some k→R.peers.ownBlock=some k∨w.heap.size≤k:=fun k hk=>(o k hk).imp id (fun e=>Nat.le_trans n0.size e)
  have X:=qj z;clear o z;have M:=(qg Y).trans D;have hr:qq5 R ps s=ps.length:=by unfold qq5;rw[if_pos D]
  have hz:=n0.size;rw[D,hr];have o:=(qg H).at_;have C:=(qg H).re.row;have O:=(qg H).re;have a1:¬(g=N.re∨R.peers.ownBlock=some g):=by
   rintro (e | e)
   ·exact qa3 o O.at_ (by decide) e
   ·obtain⟨Z,hc⟩:=qjr C g e;exact qa3 o hc (by decide) rfl
  have i:NoR w3 g N:=u.ofDrew.old o a1;have d1:=qk i 1;have a2:=qo i 1;have T:=zq i 1 (.int .u64 (N.funds-s.ours));have u4:Upd (fun k=>k=g) w3 (w3.setCell ⟨g,1,none⟩ (.int .u64 (N.funds-s.ours))):=(Upd.refl _ _).set1 _ _;have I:=qj hL;have U:=qj hR;have y:=qj i;have HS:=qj T;clear hL hR i T t ha o C O q d2 J K P;simp[NodeV.cells] at d1;go_wp2_with ((with_reducible first|rfl|refine' ut ?_ ?_;rotate_left|refine' uu ?_)<;>intros);go_ret2;have hQ:qdn N R ps s=ps.length:=by unfold qdn;rw[if_pos M]
  rw[hQ,M];refine⟨rfl,fun h=>absurd rfl h,fun _=>⟨v,k,l,?_,⟨?_,?_⟩,?_,qg X⟩⟩
  ·refine(qg I).upd u4 hz ⟨?_,?_,?_,?_⟩
   ·exact qa3 (qg I).lk (qg y) (by decide)
   ·exact qa3 (qg I).sp (qg y) (by decide)
   ·exact qa3 (qg I).ch.at_ (qg y) (by decide)
   ·exact qa3 (qg I).jo (qg y) (by decide)
  ·exact qg HS
  ·refine(qg U).upd u4 ?_ ?_ ?_
   ·exact qa3 (qg U).at_ (qg y) (by decide)
   ·intro k hk;obtain⟨Z,hc⟩:=qjr (qg U).row k hk;exact qa3 hc (qg y) (by decide)
   ·intro p hp;have:=(qg U).links p hp;exact⟨qa3 this.1 (qg y) (by decide),qa3 this.2.at_ (qg y) (by decide)⟩
  ·exact(n0.mono (fun _ _ h=>h.elim)).trans ((u.ofDrew.mono (fun k _ h=>Or.inr h)).trans (u4.mono (fun k _ h=>Or.inl h)))
 ·have n3:=n0.trans (ha D).ofDrew;have M:qbh N R ps s≠0:=by rw[qg Y];exact D
  have HP:=qj M;clear ha t q M;go_wp2_with ((with_reducible first|rfl|refine' ut ?_ ?_;rotate_left|refine' uu ?_)<;>intros);go_ret2;have e2:qdn N R ps s=0:=by unfold qdn;rw[if_neg (qg HP)]
  rw[e2,qg Y];exact⟨rfl,fun _=>n3,fun h=>absurd h D⟩
theorem q45(g:Nat)(N:NodeV)(R:RelV)(ps:List PeerV)(s:SetupV)(y:s.Ok)(w:World)(h:NodI w g N R ps)(x:ps.length≤1048576)(t:0≤N.funds∧N.funds<18446744073709551616) :
  Calls Tryz.prog 32 #[.pointer (some ⟨g,0,none⟩),.agg s.cells.toArray] w fun e w' =>
   e = .returned (.tuple #[.int .i64 (qdn N R ps s),.int .i64 (qbh N R ps s)])∧(qbh N R ps s≠0→qq w w') ∧
   (qbh N R ps s=0→∃v k l,NewL w' w.heap.size k s l∧NodI w' g {N with funds:=N.funds-s.ours} {R with peers:=v} (ps++[⟨s.ch,k,l,.new s⟩])∧Upd (fun k=>k=g∨k=N.re∨R.peers.ownBlock=some k) w w'):=by
 refine(qqe g N R ps s y w h x t).mono ?_
 rintro e w' ⟨rfl,a,b⟩
 refine⟨rfl,a,fun i=> ?_⟩
 obtain⟨v,k,l,m,o,q,-⟩:=b i
 exact⟨v,k,l,m,o,q⟩
end
section
open Go.RowKit
theorem qnv(r:Nat)(R:RelV)(ps:List PeerV)(w:World)(h:RelI w r R ps) :
  Calls Tryz.prog 79 #[.pointer (some ⟨r,0,none⟩)] w (qae (.int .i64 ps.length) w):=by
 have m:w.cell? ⟨r,1,none⟩=some R.peers:=qk h.at_ 1
 obtain⟨a,cap,i⟩:=h.shape
 rw[i] at m
 clear h
 go_enter Tryz.func79,Tryz.ntmps79
 go_wp2_with fail
 go_ret
 exact⟨rfl,Q.refl _⟩
theorem qg3(r:Nat)(R:RelV)(ps:List PeerV)(w:World)(h:RelI w r R ps)(D:ps.length≤1048576)(i:Nat)(p:PeerV)(t:ps[i]? = some p) :
  Calls Tryz.prog 35 #[.pointer (some ⟨r,0,none⟩),.int .i64 i] w (qae (.pointer (some ⟨p.lk,0,none⟩)) w):=by
 have v:w.cell? ⟨r,1,none⟩=some R.peers:=qk h.at_ 1
 have o:=(List.getElem?_eq_some_iff.1 t).1
 have q:=qjs PeerV.cells 2 PeerV.len h.row rfl
 rcases q with ⟨e,e0⟩ | ⟨g,cap,e,-,-,m⟩
 ·rw[e0] at o;simp at o
 rw[e] at v
 have y:w.cell? ⟨g,i*2+1,none⟩=some (.pointer (some ⟨p.lk,0,none⟩)):=m i 1 p t (by omega)
 have C:(i:Int)<(ps.length:Int):=by omega
 have x:¬(ps.length:Int)≤(i:Int):=by omega
 have z:¬(i:Int)<0:=by omega
 clear h m t
 go_enter Tryz.func35,Tryz.ntmps35
 go_wp2_with fail
 go_ret
 exact⟨rfl,Q.refl _⟩
theorem qt4(r:Nat)(R:RelV)(ps:List PeerV)(w:World)(h:RelI w r R ps)(i:Int)(v:i<0∨ps.length≤i) :
  Calls Tryz.prog 35 #[.pointer (some ⟨r,0,none⟩),.int .i64 i] w (qae (.pointer none) w):=by
 have o:w.cell? ⟨r,1,none⟩=some R.peers:=qk h.at_ 1
 obtain⟨a,cap,m⟩:=h.shape
 rw[m] at o
 clear h
 go_enter Tryz.func35,Tryz.ntmps35
 by_cases q:i<0
 ·go_wp2_with fail;go_ret;exact⟨rfl,Q.refl _⟩
 ·have t:(ps.length:Int)≤i:=by omega
  go_wp2_with fail;go_ret;exact⟨rfl,Q.refl _⟩
theorem qm7(g:Nat)(l:LinkV)(w:World)(h:LkR w g l) :
  Calls Tryz.prog 19 #[.pointer (some ⟨g,0,none⟩)] w (qae (.pointer (some ⟨l.en,0,none⟩)) w):=by
 have i:w.cell? ⟨g,1,none⟩=some (.pointer (some ⟨l.en,0,none⟩)):=qk h 1
 clear h
 go_enter Tryz.func19,Tryz.ntmps19
 go_wp2_with fail
 go_ret
 exact⟨rfl,Q.refl _⟩
theorem qkg(g:Nat)(N:NodeV)(w:World)(h:NoR w g N) :
  Calls Tryz.prog 38 #[.pointer (some ⟨g,0,none⟩)] w (qae (.int .u64 N.funds) w):=by
 have i:w.cell? ⟨g,1,none⟩=some (.int .u64 N.funds):=qk h 1
 clear h
 go_enter Tryz.func38,Tryz.ntmps38
 go_wp2_with fail
 go_ret
 exact⟨rfl,Q.refl _⟩
def zap(w:World)(v:Value)(l:List Int):Prop:=w.ownsRow 0 22 1 v l.length (l.map (Value.int .u64))
def q8g(B:Nat)(w:World)(v:Value)(l:List Int):Prop:=w.ownsRow B 22 1 v l.length (l.map (Value.int .u64))
def qcu(l:List Int)(a:Int):Int:=l.foldl (fun a x=>IntKind.u64.wrap (a+x)) a
theorem quf(v:Value)(l:List Int)(w:World)(h:zap w v l)(T:l.length≤1048576)(U:∀x∈l,0≤x∧x<18446744073709551616) :
  Calls Tryz.prog 82 #[v] w (qae (.int .u64 (qcu l 0)) w):=by
 have o:∃a cap,v = .slice a l.length cap∧(∀i x,l[i]? = some x→∃g,a=some ⟨g,0,none⟩∧w.cell? ⟨g,i,none⟩=some (.int .u64 x)):=by
  rcases h.2 with ⟨e,e0⟩ | ⟨g,cap,y,e,-,M,K,-,C,P⟩
  ·have:l=[]:=List.length_eq_zero_iff.1 e0;subst this;exact⟨none,0,e,fun i x h=>by simp at h⟩
  ·refine⟨_,cap,e,fun i x z=>⟨g,rfl,?_⟩⟩;have t:=(List.getElem?_eq_some_iff.1 z).1;rw[qk M,←Array.getElem?_toList];have H:(y.toList.take (l.length*1))[i]? = (l.map (Value.int .u64))[i]? := by rw[P]
   rw[List.getElem?_take_of_lt (by omega),List.getElem?_map,z] at H;exact H
 obtain⟨a,cap,rfl,m⟩:=o
 clear h
 have O:(l.length:Int)≤1048576:=by omega
 go_enter Tryz.func82,Tryz.ntmps82
 go_wp2_with fail
 obtain⟨E,rfl⟩:∃E:World,E=w:=⟨_,rfl⟩
 go_loopw [3,8] (fun R D wr=>∃i:Nat,D = .int .i64 (i:Int)∧i≤l.length∧R = .int .u64 (qcu (l.take i) 0)∧wr=E) (fun _ D _=>l.length-(intOf D).toNat)
 case atStart=>exact⟨0,rfl,Nat.zero_le _,rfl,rfl⟩
 case round =>
  obtain⟨i,rfl,z,rfl,rfl⟩:=hrel;by_cases t:i<l.length
  ·obtain⟨x,q⟩:∃x,l[i]? = some x:=⟨_,List.getElem?_eq_getElem t⟩;obtain⟨g,rfl,K⟩:=m i x q;have N:(i:Int)<(l.length:Int):=by omega
   have C:qcu (l.take (i+1)) 0=IntKind.u64.wrap (qcu (l.take i) 0+x):=by
    rw[List.take_add_one,q];simp[qcu]
   have I:=qj C;clear C m q;generalize qcu (l.take i) 0=A at *
   go_wp2_with fail;go_roundw
   case rel=>exact⟨i+1,by go_num,by omega,by rw[qg I,IntKind.wrap_u64],trivial⟩
   case measure=>simp[intOf];omega
  ·obtain rfl:i=l.length:=by omega
   rw[List.take_length];generalize J:qcu l 0=A;clear m;go_wp2_with fail;go_ret;exact⟨by rw[J];rfl,Q.refl _⟩
def qho(ours rest:Bool)(x:Live):Option Int:=if ((x.own || x.paid)&&ours) || (!(x.own || x.paid)&&rest) then some x.h.amount else none
def qe2(ours rest:Bool)(xs:List Live):List Int:=xs.filterMap (qho ours rest)
theorem Tryz.infoU64:(Tryz.prog.info? 22).map (fun i=>(i.size,i.bytes,i.zero))=some (1,8,some (.int .u64 0)):=by kernel_rfl
theorem qu8:∃i z,Tryz.prog.info? 22=some i∧i.zero=some z∧i.size=1∧i.bytes=8∧z.cells.size=1:=by
 have h:=Tryz.infoU64;cases m:Tryz.prog.info? 22 with
 | none=>rw[m] at h;simp at h
 | some i =>
  rw[m] at h;simp only[Option.map_some,Option.some.injEq,Prod.mk.injEq] at h;exact⟨i,_,rfl,h.2.2,h.1,h.2.1,rfl⟩
attribute [local go_sem ↓ high] qa5 qbd qb1
attribute [local go_sem] qc5 qdo qeu qy
theorem qk3(g:Nat)(c:ChanV)(xs:List Live)(ours rest:Bool)(hl:xs.length≤1000000)(w:World)(h:ChI w g c xs) :
  Calls Tryz.prog 83 #[.pointer (some ⟨g,0,none⟩),.bool ours,.bool rest] w fun e w'=>∃v,e = .returned v∧zap w' v (qe2 ours rest xs)∧qq w w':=by
 go_enter Tryz.func83,Tryz.ntmps83
 go_wp2_with fail
 refine(qt6 g c xs (by omega) w h).mono ?_
 rintro e w1 ⟨u,rfl,n1,R⟩
 have b0:∃(a:Option Addr) (cap:Nat),u = .slice a xs.length cap∧∀(i:Nat) (x:Live),xs[i]? = some x→∃K,a=some ⟨K,0,none⟩∧qdf w1 K 0 xs:=by
  rcases R with ⟨a,k,rfl,rfl⟩ | ⟨K,cap,rfl,-,W⟩
  ·exact⟨a,k,rfl,fun i x h=>by simp at h⟩
  ·exact⟨_,cap,rfl,fun i x h=>⟨K,rfl,W⟩⟩
 obtain⟨a,cap,rfl,o⟩:=b0
 clear R h
 have b8:(xs.length:Int)≤1000000:=by omega
 obtain⟨i9,z9,a8,b5,b2,b3,b4⟩:=qu8
 obtain⟨E,rfl⟩:∃E:World,E=w1:=⟨_,rfl⟩
 go_wp2_with fail
 go_loopw [7,9,10,14] (fun sv _ _ iv wr=>∃i:Nat,iv = .int .i64 (i:Int)∧i≤xs.length∧q8g E.heap.size wr sv (qe2 ours rest (xs.take i))∧qq w wr∧qq E wr) (fun _ _ _ iv _=>xs.length-(intOf iv).toNat)
 case atStart=>exact⟨0,rfl,Nat.zero_le _,⟨rfl,.inl ⟨rfl,rfl⟩⟩,n1,Upd.refl _ _⟩
 case round =>
  obtain⟨i,rfl,hi,M,Y,q⟩:=hrel;obtain⟨z,rfl⟩:∃z:World,z=wr:=⟨_,rfl⟩;by_cases O:i<xs.length
  ·obtain⟨x,y⟩:∃x,xs[i]? = some x:=⟨_,List.getElem?_eq_getElem O⟩;obtain⟨K,rfl,W⟩:=o i x y;have D:=(W.upd q (fun h=>h)).row y;rw[Nat.zero_add] at D;have b7:(i:Int)<(xs.length:Int):=by omega
   have b1:=qgn z x;have H:=qgb z x;have P:(qe2 ours rest (xs.take (i+1)))=qe2 ours rest (xs.take i)++(match qho ours rest x with | some a=>[a] | none=>[]):=by
    rw[List.take_add_one,y];unfold qe2;rw[List.filterMap_append];cases m:qho ours rest x<;>simp[m]
   have HL:=qj P;have V:=qj M;clear P y W o M;go_upto_region 5 with fail;obtain⟨I,T⟩:=H;generalize (z.alloc (.cells (qm Live.zero).toArray 69)).setCells z.heap.size 0 (qm x)=U at I T ⊢;have a2:U.cell? ⟨z.heap.size,35,none⟩=some (.bool x.own):=by rw[qk I,List.getElem?_toArray];exact qee x
   have a6:U.cell? ⟨z.heap.size,37,none⟩=some (.bool x.paid):=by rw[qk I,List.getElem?_toArray];exact qjk x
   have d1:U.cell? ⟨z.heap.size,1,none⟩=some (.int .u64 x.h.amount):=by rw[qk I,List.getElem?_toArray];exact qwn x
   have C:U.ownsRow E.heap.size 22 1 u7 (qe2 ours rest (xs.take i)).length ((qe2 ours rest (xs.take i)).map (Value.int .u64)):=qcg (qg V) T;have N:(qe2 ours rest (xs.take i)).length≤1000000:=by
    have:=List.length_filterMap_le (qho ours rest) (xs.take i);rw[List.length_take] at this;unfold qe2;omega
   replace Y:=Y.trans T;replace q:=q.trans T;have Z:=qj C;have J:=qj N;clear b1 D I T V C N;cases ho:x.own<;>cases hp:x.paid<;>cases ours<;>cases rest
   all_goals
    have m:=HL;unfold qho at m;rw[ho,hp] at m;rw[ho] at a2;rw[hp] at a6;simp only[Bool.or_true,Bool.or_false,Bool.true_and,Bool.false_and,Bool.and_true,Bool.and_false,Bool.not_true,Bool.not_false,Bool.false_eq_true,if_true,if_false,List.append_nil] at m;go_wp2_with (at_builtin;refine wpList_append_own _ rfl (.tmp 35) (.tmp 39) 92 rfl E.heap.size 22 i9 _ 1 8 Tryz.underlying92 a8 b5 b2 b3 b4 (by decide) _ _ _ rfl ((qg Z).alloc _) ⟨U.heap.size,0,none⟩ 1 1 [.int .u64 x.h.amount] rfl rfl ?c1 ?c2 ?c3 ?c4 ?c5 ?_)
    first
    | go_roundw
      case rel =>
       refine⟨i+1,by go_num,by omega,?_,Y,q⟩;rw[qg m];exact qg Z
      case measure=>simp[intOf];omega
    | case c1=>exact cell_one_new _ _ _
      case c2=>intro u R;simp at R;subst R;rfl
      case c3=>have:=qg J;unfold maxLen;omega
      case c4=>have:=qg J;omega
      case c5=>have:=q.size;simp;omega
      intro v' w' t hg _
      have a7:∀k,Value.ownBlock u7=some k→E.heap.size≤k:=by
       intro k X;rcases (qg Z).2 with ⟨rfl,_⟩ | ⟨g,_,_,rfl,I,_⟩
       ·simp[Value.ownBlock] at X
       ·simp[Value.ownBlock] at X;omega
      have nw:qq E w':=(q.alloc _).grown hg (fun k X O=>by have:=a7 k X;omega)
      have b6:qq w w':=n1.then nw (fun _ _ h=>h)
      have a1:=qj t
      clear t hg
      go_wp2_with fail
      go_roundw
      case rel =>
       refine⟨i+1,by go_num,by omega,?_,b6,nw⟩;rw[qg m];unfold q8g;rw[List.length_append,List.map_append];exact qg a1
      case measure=>simp[intOf];omega
  ·obtain rfl:i=xs.length:=by omega
   rw[List.take_length] at M;have V:=qj M;clear M o;go_wp2_with fail;go_ret;exact⟨_,rfl,(qg V).mono (Nat.zero_le _),Y⟩
end
end Go.Proofs.YtfmkdoachjgjbaaGreatDoor
