/-
  Law 13: setups, preimages; the reference's Of; a new end.
-/
import Derived.Test.YtfmkdoachjgjbaaGreatDoorMcd
import Derived.Test.YtfmkdoachjgjbaaGreatDoorMcj
import Derived.Test.YtfmkdoachjgjbaaGreatDoorMed
import Derived.Test.YtfmkdoachjgjbaaGreatDoorMda
import Derived.Deep.Onto
import Derived.Maps.AppendAt
import Derived.Deep.AppendLies
import Derived.Laws.OwnMore
import Derived.Test.YtfmkdoachjgjbaaGreatDoorMbf
import Derived.Test.YtfmkdoachjgjbaaGreatDoorMeb
set_option linter.unusedVariables false
set_option linter.unusedSimpArgs false
namespace Go.Proofs.YtfmkdoachjgjbaaGreatDoor
open Go.RowKit
attribute [local go_sem ↓ high] zq qad qag qan
attribute [local go_sem] qbi qch qck qw
theorem q75(x y:Int)(w:World):(qym #[(0,.int .u8 x),(1,.int .u8 y)]).run Tryz.prog w = .ok (.agg (qv (x::y::List.replicate 30 0)).toArray) w:=run_build w _ _ _ (by kernel_rfl)
set_option maxRecDepth 100000 in
set_option maxHeartbeats 1000000 in
theorem q2g(p:List Int)(H:p.length=32)(w:World):Calls Tryz.prog 12 #[.agg (qv p).toArray] w (qa5 (.agg (qv (ofI p)).toArray) w):=by
 have F:(ofI p).length=32:=qb5 _;go_enter Tryz.func12,Tryz.ntmps12;go_upto_region 1 with fail;have E:=(qca w p H).new ((Upd.refl _ _).alloc (.cells (qv ze).toArray 35));have z:=qca (w.alloc (.cells (qv p).toArray 35)) ze qo;rw[World.size_alloc] at z;have I:qq w ((w.alloc (.cells (qv p).toArray 35)).alloc (.cells (qv ze).toArray 35)):=((Upd.refl _ _).alloc _).alloc _;generalize (w.alloc (.cells (qv p).toArray 35)).alloc (.cells (qv ze).toArray 35)=w1 at E z I ⊢;obtain⟨A,v⟩:∃A,A=w.heap.size:=⟨_,rfl⟩;obtain⟨B,C⟩:∃B,B=w.heap.size+1:=⟨_,rfl⟩;rw[←C] at z ⊢;rw[←v] at E ⊢;have O:w.heap.size≤B:=by omega
 clear v C;have q:(convert 95 9 (.slice (some ⟨A,0,none⟩) 32 32)).run Tryz.prog w1 = .ok (.string (strOfNums p)) w1 :=
  qc6 w1 _ _ _ Tryz.underlying95 Tryz.underlying5 Tryz.underlying9 A 32 _ _ _ 32 H E.at_
 have f:Calls Tryz.prog 50 #[.string (strOfNums p)] w1 (fun e w'=>e = .returned (.agg (qv (ofI p)).toArray)∧qq w1 w'):=q7h (strOfNums p) w1 (by rw[strOfNums_size,H];omega);have L:=qb z;clear E z;generalize ofI p=K at *
 go_wp2_with fail;refine f.mono ?_;rintro e S ⟨rfl,J⟩;have m:=(qa L).new J;have R:=m.stOk K F;have M:=qb (m.put K F);have N:=qb ((I.trans J).then (zj (w:=S) (b:=B) (qv K)) (fun i T e=>by omega));clear m I J f q;go_wp2_with fail;have P:=qa M;exact bodyPost_ret (results_cell_row rfl _ _ B _ _ _ _ rfl P.at_ Tryz.underlying35 rfl (by rw[List.size_toArray,qaj,F];exact Tryz.infoHsh)) rfl ⟨rfl,qa N⟩
def qmu(x:Int):List Int:=x::List.replicate 31 0
def q9l(ours cap:Int):SetupV:=⟨7,cap,ours,qmu 1,⟨#[97]⟩,⟨#[98]⟩⟩
def zdi(ours cap:Int):SetupV:=⟨7,cap,IntKind.u64.wrap (cap-ours),qmu 2,⟨#[98]⟩,⟨#[97]⟩⟩
def q3o(p:Array (Nat × Value)):Sem Value:=Instr.build 78 p
theorem qme(p:Array (Nat × Value)):Instr.build 78 p=q3o p:=rfl
theorem q78(ours cap:Int)(w:World):(q3o #[(0,.int .u32 7),(1,.int .u64 cap),(2,.int .u64 ours),(3,.agg (qv (qmu 1)).toArray),(4,.string ⟨#[97]⟩),(5,.string ⟨#[98]⟩)]).run Tryz.prog w = .ok (.agg (q9l ours cap).cells.toArray) w:=run_build w _ _ _ (by kernel_rfl)
theorem q79(o cap:Int)(w:World):(q3o #[(0,.int .u32 7),(1,.int .u64 cap),(2,.int .u64 o),(3,.agg (qv (qmu 2)).toArray),(4,.string ⟨#[98]⟩),(5,.string ⟨#[97]⟩)]).run Tryz.prog w = .ok (.agg (SetupV.cells ⟨7,cap,o,qmu 2,⟨#[98]⟩,⟨#[97]⟩⟩).toArray) w:=run_build w _ _ _ (by kernel_rfl)
def q96(p:Array (Nat × Value)):Sem Value:=Instr.build 97 p
theorem qmf(p:Array (Nat × Value)):Instr.build 97 p=q96 p:=rfl
def qzc(a b:SetupV):List Value:=a.cells++b.cells
theorem Tryz.infoSt2:(Tryz.prog.info? 97).map (·.size)=some 74:=by kernel_rfl
def zat(x v:Value):Sem Unit:=Instr.storeAt 97 x v
theorem qi4(x v:Value):Instr.storeAt 97 x v=zat x v:=rfl
theorem qx5(b o:Nat)(A:Array Value)(w:World):(zat (.pointer (some ⟨b,o,none⟩)) (.agg A)).run Tryz.prog w=if stOk w b o 74 A=true then .ok () (w.setCells b o A.toList) else qed Tryz.prog 97 w b o A :=
 qau 97 74 Tryz.infoSt2 b o A w
def zdj:List Value:=ql7++ql7
def q95:Sem Value:=Instr.alloc 97 true (.tuple #[])
theorem qig:Instr.alloc 97 true (.tuple #[])=q95:=rfl
theorem qvu(w:World):q95.run Tryz.prog w = .ok (.pointer (some ⟨w.heap.size,0,none⟩)) (w.alloc (.cells zdj.toArray 97)):=by kernel_rfl
theorem za5(m f q i:Int)(w:World):(q96 #[(0,.agg (q9l m f).cells.toArray),(1,.agg (SetupV.cells ⟨7,i,q,qmu 2,⟨#[98]⟩,⟨#[97]⟩⟩).toArray)]).run Tryz.prog w = .ok (.agg (qzc (q9l m f) ⟨7,i,q,qmu 2,⟨#[98]⟩,⟨#[97]⟩⟩).toArray) w:=run_build w _ _ _ (by kernel_rfl)
theorem SetupV.one(s:SetupV):∀v∈s.cells,v.oneCell'=true:=by
 intro v f;simp only[SetupV.cells,List.mem_cons,List.mem_append,List.mem_map,List.not_mem_nil,or_false] at f;rcases f with rfl | rfl | rfl | ⟨n,_,rfl⟩ | rfl | rfl<;>rfl
structure St2(w:World)(b:Nat)(s t:SetupV):Prop where
 at_:w.heap[b]? = some (.cells (qzc s t).toArray 97 (0,0))
 l1:s.seed.length=32
 l2:t.seed.length=32
theorem qq0{s t:SetupV}(f:s.seed.length=32)(i:t.seed.length=32):(qzc s t).length=74:=by unfold qzc;rw[List.length_append,s.len f,t.len i]
theorem St2.upd{S:Nat→Prop}{w w':World}{b:Nat}{s t:SetupV}(a:St2 w b s t)(u:Upd S w w')(n:¬S b):St2 w' b s t:=⟨u.old a.at_ n,a.l1,a.l2⟩
theorem St2.new{w w':World}{b:Nat}{s t:SetupV}(a:St2 w b s t)(u:qq w w'):St2 w' b s t:=a.upd u (fun h=>h)
theorem St2.row0{w:World}{b:Nat}{s t:SetupV}(a:St2 w b s t):zg w b 0 37=some s.cells.toArray:=by
 rw[qbt a.at_ 0 37 (by rw[List.size_toArray,qq0 a.l1 a.l2];omega)];congr 1;apply Array.ext';rw[Array.toList_extract];show List.extract (s.cells++t.cells) 0 37=s.cells;rw[List.extract_eq_take_drop,List.drop_zero,List.take_append_of_le_length (by rw[s.len a.l1];exact Nat.le_refl _),List.take_of_length_le (by rw[s.len a.l1];exact Nat.le_refl _)]
theorem St2.row1{w:World}{b:Nat}{s t:SetupV}(a:St2 w b s t):zg w b 37 37=some t.cells.toArray:=by
 rw[qbt a.at_ 37 37 (by rw[List.size_toArray,qq0 a.l1 a.l2];omega)];congr 1;apply Array.ext';rw[Array.toList_extract];show List.extract (s.cells++t.cells) 37 74=t.cells;rw[List.extract_eq_take_drop,qkq (s.len a.l1),List.take_of_length_le (by rw[t.len a.l2];exact Nat.le_refl _)]
attribute [local go_sem ↓ high] qme qmf qi4 qig
attribute [local go_sem] za5 qx5 qvu q78 q79
end Go.Proofs.YtfmkdoachjgjbaaGreatDoor
namespace Go.Proofs.YtfmkdoachjgjbaaGreatDoor
open Go.RowKit
theorem q2s{c:Ch}(h:qec c=0):c.sign=((c.signing.say (qcp c)).turned,(qcp c).on c.s.ch,0):=by unfold Ch.sign;rw[if_pos h]
theorem qjv{c:Ch}{m:MsgV}(f:qa7 3 c.xs=true)(i:m.number=c.k.heard+1)(q:qhs c m=false):c.hearSign m=(c.signedBy,[c.signedBy.revocation],0):=by
 have h:qct c m=0:=by
  unfold qct;rw[f,q,if_neg (by decide),if_neg (fun h=>h i),if_neg (by decide)]
 unfold Ch.hearSign;rw[if_pos h]
def a0:Ch:=Ch.new (q9l 10 10)
def b0:Ch:=Ch.new (zdi 10 10)
section
variable (hv:Vector Int 32)
def a1:Ch:=(a0.offer 4 hv 9).1
def m1:MsgV:=(a0.offer 4 hv 9).2.1
def b1:Ch:=(b0.hearAdd (m1 hv)).1
noncomputable def a2:Ch:=(a1 hv).sign.1
noncomputable def b2:Ch:=(b1 hv).signedBy
noncomputable def a3:Ch:=((a2 hv).hearRevoke ⟨7,7,0,0,qc4 (qmu 2) 65535 16,0,0⟩).1
end
attribute [local go_sem ↓ high] zq qad qag qan qz zb zc zf qme qmf qi4 qig qb4
attribute [local go_sem] qbi qch qck qdg qw qaw qax qa1 qx5 qvu qd8 q0i q0j
end Go.Proofs.YtfmkdoachjgjbaaGreatDoor
namespace Go.Proofs.YtfmkdoachjgjbaaGreatDoor
open Go.RowKit
section
variable {w0 w w':World}{p gA gB:Nat}{SA SB:Nat→Prop}{a b a' b':Ch}{wa wb:List MsgV}{ua ub:Value}{bad:Bool}
end
attribute [local go_sem ↓ high] qi4 qig qb4
attribute [local go_sem] qw qx5 qvu qd8
end Go.Proofs.YtfmkdoachjgjbaaGreatDoor
namespace Go.Proofs.YtfmkdoachjgjbaaGreatDoor
open Go.RowKit
section
variable {w0 w wD w':World}{p gA gB:Nat}{SA SB S:Nat→Prop}{a b a' b':Ch}{wa wb:List MsgV}{ua ub:Value}{bad:Bool}
end
attribute [local go_sem ↓ high] qz zb zc zf qah
attribute [local go_sem] qaw qax qa1 qcl qw
end Go.Proofs.YtfmkdoachjgjbaaGreatDoor
namespace Go.Proofs.YtfmkdoachjgjbaaGreatDoor
open Go.RowKit
theorem q8d(w:World):(q3w 0 #[]).run Tryz.prog w = .ok (.slice (some ⟨w.heap.size,0,none⟩) 0 0) (w.alloc (.cells #[] 101)):=by
 obtain⟨i,z,m,q,v⟩:=qc2 Tryz.zeroMsg;have f:i.size=38:=by have:=Tryz.infoMsg;rw[m] at this;simpa using this
 show (Instr.buildSlice 124 0 #[]).run Tryz.prog w=_;simp[Instr.buildSlice,run_underlying Tryz.underlying124,sizeOf,typeInfo,zeroValue,m,q,f,Instr.fill,newRow];rw[Array.eq_empty_of_size_eq_zero (xs:=Array.map _ (Array.range 0)) (by simp)]
section
variable {w0 w:World}{p gA gB:Nat}{SA SB:Nat→Prop}{a b:Ch}{wa wb:List MsgV}{ua ub:Value}{bad:Bool}
end
attribute [local go_sem ↓ high] qz zb zc zf qah
attribute [local go_sem] qaw qax qa1 qcl q8d qw
end Go.Proofs.YtfmkdoachjgjbaaGreatDoor
namespace Go.Proofs.YtfmkdoachjgjbaaGreatDoor
open Go.RowKit
section
variable {w0 w w':World}{p K:Nat}{S T:Nat→Prop}{a b a' b':Ch}{wa wb wa' wb':List MsgV}{bad bad':Bool}{m m':MsgV}
end
structure Pr where
 a:Ch
 b:Ch
 wa:List MsgV
 wb:List MsgV
 bad:Bool
noncomputable def Pr.hears0(P:Pr):Pr × Bool:=match P.wa with
 | []=>(P,false)
 | m::ms=>(⟨(P.a.hear m).1,P.b,ms,P.wb++(P.a.hear m).2.1,P.bad || decide ((P.a.hear m).2.2≠0)⟩,true)
noncomputable def Pr.hears1(P:Pr):Pr × Bool:=match P.wb with
 | []=>(P,false)
 | m::ms=>(⟨P.a,(P.b.hear m).1,P.wa++(P.b.hear m).2.1,ms,P.bad || decide ((P.b.hear m).2.2≠0)⟩,true)
structure HearOk(c:Ch)(m:MsgV)(other:List MsgV):Prop where
 inv:c.Inv
 kind:m.kind=3∨m.kind=4∨m.kind=5∨m.kind=6∨m.kind=7∨m.kind=8
 says:∀l∈(c.hear m).2.1,MsgOk l
 few:other.length+(c.hear m).2.1.length≤1000000
def Pr.Ok0(P:Pr):Prop:=match P.wa with | []=>True | m::ms=>MsgOk m∧HearOk P.a m P.wb∧ms.length<1000000
def Pr.Ok1(P:Pr):Prop:=match P.wb with | []=>True | m::ms=>MsgOk m∧HearOk P.b m P.wa∧ms.length<1000000
structure SignOk(c:Ch):Prop where
 key:c.s.key.size≤100000000
 ch:0≤c.s.ch∧c.s.ch<4294967296
 few:c.news.length<1000000
 xs:c.xs.length≤16
noncomputable def Pr.sign0(P:Pr):Pr:= {P with a:=P.a.sign.1,wb:=if P.a.sign.2.2=0 then P.wb++[P.a.sign.2.1] else P.wb}
noncomputable def Pr.sign1(P:Pr):Pr:= {P with b:=P.b.sign.1,wa:=if P.b.sign.2.2=0 then P.wa++[P.b.sign.2.1] else P.wa}
noncomputable def Pr.round(P:Pr):Pr:=P.hears0.1.hears1.1.sign0.sign1
noncomputable def Pr.went(P:Pr):Bool:=P.hears0.1.hears1.2 || P.hears0.2 || (P.hears0.1.hears1.1.a.sign.2.2==0) || (P.hears0.1.hears1.1.sign0.b.sign.2.2==0)
structure Pr.RoundOk(P:Pr):Prop where
 ok0:P.Ok0
 ok1:P.hears0.1.Ok1
 sg0:SignOk P.hears0.1.hears1.1.a
 sg1:SignOk P.hears0.1.hears1.1.sign0.b
 ms0:MsgOk P.hears0.1.hears1.1.a.sign.2.1
 ms1:MsgOk P.hears0.1.hears1.1.sign0.b.sign.2.1
 few0:P.hears0.1.hears1.1.wb.length<1000000
 few1:P.hears0.1.hears1.1.sign0.wa.length<1000000
inductive Rests:Nat→Pr→Pr→Prop
 | out (P:Pr):Rests 0 P P
 | stop (n:Nat) (P:Pr):P.RoundOk→P.went=false→Rests (n+1) P P.round
 | step (n:Nat) (P Q:Pr):P.RoundOk→P.went=true→Rests n P.round Q→Rests (n+1) P Q
theorem qqe(i:Nat){k p d:Nat}(f:k≤p)(q:p≤d):hiB i d k=hiB i d p++hiB i p k:=by
 unfold hiB;rw[←List.filter_append,←List.reverse_append];congr 2;have e:=List.range'_append_1 (s:=k) (m:=p-k) (n:=d-p);rw[show k+(p-k)=p by omega,show p-k+(d-p)=d-k by omega] at e;exact e.symm
theorem q5m{i p:Nat}(h:∀b,b<p→i.testBit b=false):hiB i p 0=[]:=by
 unfold hiB;rw[List.filter_eq_nil_iff];intro b f;rw[List.mem_reverse,List.mem_range'_1] at f;rw[h b (by omega)];decide
theorem q5l{f t d p:Nat}(h:f / 2 ^ p=t / 2 ^ p):hiB f d p=hiB t d p:=by
 unfold hiB;refine List.filter_congr fun b q=> ?_
 rw[List.mem_reverse,List.mem_range'_1] at q;have i:=Nat.testBit_div_two_pow (n:=p) f (b-p);have m:=Nat.testBit_div_two_pow (n:=p) t (b-p);rw[show b-p+p=b by omega] at i m;rw[←i,←m,h]
theorem q1y{f:Int}(v:qcx f=true):∀b,b<qbn f→f.toNat.testBit b=false:=by
 intro b i;unfold qbn at i;rw[if_pos v] at i;by_cases q:f.toNat=0
 ·rw[q];exact Nat.zero_testBit b
 ·have E:=qlz v;obtain⟨m,C,-⟩:=Lib.ctzFrom_spec 64 f.toNat (by omega) (by omega);have e:Lib.ctz 64 f.toNat=Lib.ctzFrom 64 f.toNat:=by unfold Lib.ctz;rw[if_neg q]
  rw[e] at i;generalize Lib.ctzFrom 64 f.toNat=z at i C;rw[C,Nat.testBit_two_pow_mul];simp only[Bool.and_eq_false_imp,decide_eq_true_eq];intro h;omega
theorem qtm(h:List Int){f t:Int}(m:qkm f t=true):qcf (qcz h f).1 f t=((qcz h t).1,0):=by
 have i:=m;unfold qkm at i;simp only[Bool.and_eq_true,beq_iff_eq] at i;obtain⟨q,z,hd⟩:=i;have v:=qjj f;unfold qcf qcz;rw[if_pos m,if_pos q,if_pos z];have e:qc4 (qc4 h f.toNat 16) t.toNat (qbn f)=qc4 h t.toNat 16:=by
  unfold qc4;rw[←List.foldl_append,qqe t.toNat (Nat.zero_le _) v,qqe f.toNat (Nat.zero_le _) v,q5m (q1y q),q5l hd,List.append_nil]
 rw[e]
def zc6(h:List Int)(k:KeptV):Prop:=qbp k.told∧(k.full=true→k.told=(qcz h k.number).1)
def qez(h:List Int)(ps:List KeptV):Prop:=∀k∈ps,zc6 h k
theorem qq4(h:List Int):qez h (List.replicate 17 .zero):=by
 intro k f;rw[List.eq_of_mem_replicate f];exact⟨qdd,fun h=>by cases h⟩
theorem qms(h:List Int)(f:qbp h)(i:Int):qbp (qcz h i).1:=by
 unfold qcz;split
 ·exact qko h f _ _
 ·exact qdd
theorem qxo{h:List Int}{i:Int}{k:KeptV}(m:k.told=(qcz h k.number).1):qgn (qcz h i).1 i k=false:=by
 unfold qgn;cases f:qkm i k.number with
 | false =>
  have e:qcf (qcz h i).1 i k.number=(ze,1):=by unfold qcf;rw[if_neg (by rw[f];decide)]
  rw[e];rfl
 | true =>
  rw[qtm h f,m];simp
theorem qz0{i:Int}(h:qcx i=true):qkm i i=true:=by
 unfold qkm;rw[h];simp
theorem q5q{h:List Int}{i:Int}{ps:List KeptV}(m:qcx i=true)(v:qez h ps):qd6 (qcz h i).1 i ps=0:=by
 have e:qk1 (qcz h i).1 i (ps.take (qbn i))=none:=by
  unfold qk1;rw[List.find?_eq_none];intro k q;cases f:k.full with
  | false=>simp
  | true =>
   rw[qxo ((v k (List.mem_of_mem_take q)).2 f)];decide
 unfold qd6;rw[qz0 m,e];rfl
theorem q5r{h:List Int}(m:qbp h){i:Int}{ps:List KeptV}(f:qez h ps):qez h (qit (qcz h i).1 i ps):=by
 unfold qit;split
 ·intro k q;rcases List.mem_or_eq_of_mem_set q with e | e
  ·exact f k e
  ·rw[e];exact⟨qms h m i,fun _=>rfl⟩
 ·exact f
section
variable {c:Ch}{m:MsgV}
theorem q8y(q:qap m=true)(f:m.ch=c.s.ch)(i:m.kind=3):c.hear m=((c.hearAdd m).1,[],(c.hearAdd m).2):=by
 unfold Ch.hear;rw[if_neg (by rw[q,f];simp),if_pos i]
theorem qyw(q:qap m=true)(f:m.ch=c.s.ch)(i:m.kind=6):c.hear m=c.hearSign m:=by
 unfold Ch.hear;rw[if_neg (by rw[q,f];simp),if_neg (by omega),if_neg (by omega),if_neg (by omega),if_pos i]
theorem qyx(q:qap m=true)(f:m.ch=c.s.ch)(i:m.kind=7):c.hear m=((c.hearRevoke m).1,[],(c.hearRevoke m).2):=by
 unfold Ch.hear;rw[if_neg (by rw[q,f];simp),if_neg (by omega),if_neg (by omega),if_neg (by omega),if_neg (by omega),if_pos i]
end
theorem q0m(l:List Live):∀c:Ch,(∀z∈l,z.state≠9)→l.foldl qcn c=c:=by
 induction l with
 | nil=>intro c _;rfl
 | cons z l i =>
  intro c h;rw[List.foldl_cons,show qcn c z=c by unfold qcn;rw[if_neg (h z (List.mem_cons_self ..))],i c fun y f=>h y (List.mem_cons_of_mem _ f)]
theorem qgu{c:Ch}{ev:Int}{L:List Live}(h:qab ev c.xs=L)(f:∀z∈L,z.state≠9):c.goOn ev = {c with xs:=L} := by
 unfold Ch.goOn;rw[h,q0m L c f];have:qel L=L:=by
  unfold qel;rw[List.filter_eq_self];intro z i;have:=f z i;simpa using this
 rw[this]
theorem qqc{c:Ch}{ev:Int}{z:Live}(h:qab ev c.xs=[z])(f:z.state=9):c.goOn ev = {c.give (z.own != z.paid) z.h.amount with xs:=[]} := by
 unfold Ch.goOn;rw[h,List.foldl_cons,List.foldl_nil,show qcn c z=c.give (z.own != z.paid) z.h.amount by unfold qcn;rw[if_pos f]];have:qel [z]=[]:=by
  unfold qel;rw[List.filter_eq_nil_iff];intro y i;rw[List.mem_singleton.1 i,f];decide
 rw[this]
section
variable {s:SetupV}{sg hd no nt x y k:Int}{f1 f2 rv aw:Bool}{L L1 L2:List Live}{z:Live}{sh:List KeptV}{nw la:List MsgV}{T:List Int}
theorem zb0(C:sg≠65535)(q:qa7 1 L=true)(i:qab 1 L=L1)(f:∀z∈L1,z.state≠9) :
  (Ch.mk s ⟨sg,hd,false,no,nt,f1,f2,rv⟩ x y L sh nw la).sign=(Ch.mk s ⟨sg+1,hd,true,no,nt,f1,f2,false⟩ x y L1 sh [] (nw++[⟨6,s.ch,0,0,qbe false s.key s.ch (sg+1) x y L1,0,sg+1⟩]),⟨6,s.ch,0,0,qbe false s.key s.ch (sg+1) x y L1,0,sg+1⟩,0):=by
 have e:qec (Ch.mk s ⟨sg,hd,false,no,nt,f1,f2,rv⟩ x y L sh nw la)=0:=by
  unfold qec;rw[if_neg (by simp),if_neg (by rw[q];simp),if_neg C]
 have g:(Ch.mk s ⟨sg,hd,false,no,nt,f1,f2,rv⟩ x y L sh nw la).signing=Ch.mk s ⟨sg+1,hd,true,no,nt,f1,f2,false⟩ x y L1 sh nw la:=by
  unfold Ch.signing;rw[qgu (L:=L1) i f]
 have v:qcp (Ch.mk s ⟨sg,hd,false,no,nt,f1,f2,rv⟩ x y L sh nw la)=⟨6,0,0,0,qbe false s.key s.ch (sg+1) x y L1,0,sg+1⟩:=by
  unfold qcp;rw[g]
 rw[q2s e,g,v]
 generalize qbe false s.key s.ch (sg+1) x y L1=T
 rfl
theorem zb1(c:Ch)(h:c.k.awaits=true∨qa7 1 c.xs=false):c.sign=(c,MsgV.zero,5):=by
 refine qvf ?_ (by decide);unfold qec;by_cases f:c.k.awaits=true
 ·rw[if_pos f]
 ·rw[if_neg f,if_pos (h.resolve_left f)]
theorem q6z(f:0≤hd):(Ch.mk s ⟨sg,hd+1,aw,no,nt,f1,f2,true⟩ x y L sh nw la).revocation=⟨7,s.ch,0,0,(qcz s.seed (65535-hd)).1,0,hd⟩:=by
 unfold Ch.revocation;have e:(Ch.mk s ⟨sg,hd+1,aw,no,nt,f1,f2,true⟩ x y L sh nw la).secret hd=qcz s.seed (65535-hd):=by
  unfold Ch.secret;rw[if_neg (by show ¬(hd<0∨hd+1≤hd);omega)]
 show (⟨7,s.ch,0,0,((Ch.mk s ⟨sg,hd+1,aw,no,nt,f1,f2,true⟩ x y L sh nw la).secret (hd+1-1)).1,0,hd+1-1⟩:MsgV)=_;rw[show hd+1-1=hd by omega,e]
theorem zbk(I:0≤hd)(H:qa7 3 L=true)(q:qab 3 L=L1)(f:∀z∈L1,z.state≠9)(E:qab 4 L1=L2)(i:∀z∈L2,z.state≠9)(F:T=qbe true s.peer s.ch (hd+1) x y L1) :
  (Ch.mk s ⟨sg,hd,aw,no,nt,f1,f2,rv⟩ x y L sh nw la).hearSign ⟨6,s.ch,0,0,T,0,hd+1⟩=(Ch.mk s ⟨sg,hd+1,aw,no,nt,f1,f2,true⟩ x y L2 sh nw la,[⟨7,s.ch,0,0,(qcz s.seed (65535-hd)).1,0,hd⟩],0):=by
 have e:qhs (Ch.mk s ⟨sg,hd,aw,no,nt,f1,f2,rv⟩ x y L sh nw la) ⟨6,s.ch,0,0,T,0,hd+1⟩=false:=by
  unfold qhs;show (T != qbe true s.peer s.ch (hd+1) x y (qab 3 L))=false;rw[q,F];exact bne_self_eq_false _
 have g:(Ch.mk s ⟨sg,hd,aw,no,nt,f1,f2,rv⟩ x y L sh nw la).signedBy=Ch.mk s ⟨sg,hd+1,aw,no,nt,f1,f2,true⟩ x y L2 sh nw la:=by
  have v:(Ch.mk s ⟨sg,hd,aw,no,nt,f1,f2,rv⟩ x y L sh nw la).goOn 3=Ch.mk s ⟨sg,hd,aw,no,nt,f1,f2,rv⟩ x y L1 sh nw la:=qgu (L:=L1) q f;have C:(Ch.mk s ⟨sg,hd+1,aw,no,nt,f1,f2,rv⟩ x y L1 sh nw la).goOn 4=Ch.mk s ⟨sg,hd+1,aw,no,nt,f1,f2,rv⟩ x y L2 sh nw la:=qgu (L:=L2) E i;unfold Ch.signedBy;rw[v];show ((Ch.mk s ⟨sg,hd+1,aw,no,nt,f1,f2,rv⟩ x y L1 sh nw la).goOn 4).revokes=_;rw[C];rfl
 rw[qjv H rfl e,g,q6z I]
theorem q5p(I:0≤hd)(H:qa7 3 L=true)(q:qab 3 L=L1)(f:∀z∈L1,z.state≠9)(E:qab 4 L1=[z])(i:z.state=9)(F:T=qbe true s.peer s.ch (hd+1) x y L1) :
  (Ch.mk s ⟨sg,hd,aw,no,nt,f1,f2,rv⟩ x y L sh nw la).hearSign ⟨6,s.ch,0,0,T,0,hd+1⟩=(Ch.mk s ⟨sg,hd+1,aw,no,nt,f1,f2,true⟩ (if (z.own != z.paid)=true then IntKind.u64.wrap (x+z.h.amount) else x) (if (z.own != z.paid)=true then y else IntKind.u64.wrap (y+z.h.amount)) [] sh nw la,[⟨7,s.ch,0,0,(qcz s.seed (65535-hd)).1,0,hd⟩],0):=by
 have e:qhs (Ch.mk s ⟨sg,hd,aw,no,nt,f1,f2,rv⟩ x y L sh nw la) ⟨6,s.ch,0,0,T,0,hd+1⟩=false:=by
  unfold qhs;show (T != qbe true s.peer s.ch (hd+1) x y (qab 3 L))=false;rw[q,F];exact bne_self_eq_false _
 have g:(Ch.mk s ⟨sg,hd,aw,no,nt,f1,f2,rv⟩ x y L sh nw la).signedBy=Ch.mk s ⟨sg,hd+1,aw,no,nt,f1,f2,true⟩ (if (z.own != z.paid)=true then IntKind.u64.wrap (x+z.h.amount) else x) (if (z.own != z.paid)=true then y else IntKind.u64.wrap (y+z.h.amount)) [] sh nw la:=by
  have v:(Ch.mk s ⟨sg,hd,aw,no,nt,f1,f2,rv⟩ x y L sh nw la).goOn 3=Ch.mk s ⟨sg,hd,aw,no,nt,f1,f2,rv⟩ x y L1 sh nw la:=qgu (L:=L1) q f;have C:(Ch.mk s ⟨sg,hd+1,aw,no,nt,f1,f2,rv⟩ x y L1 sh nw la).goOn 4=_:=qqc (z:=z) E i;unfold Ch.signedBy;rw[v];show ((Ch.mk s ⟨sg,hd+1,aw,no,nt,f1,f2,rv⟩ x y L1 sh nw la).goOn 4).revokes=_;rw[C];unfold Ch.give;cases (z.own != z.paid)<;>rfl
 rw[qjv H rfl e,g,q6z I]
theorem qyy{c:Ch}{R:List Int}{ch:Int}(f:c.k.awaits=true)(i:c.k.signed=k+1)(q:qd6 R (65535-k) c.shelf=0):c.hearRevoke ⟨7,ch,0,0,R,0,k⟩=(((c.shelved ⟨7,ch,0,0,R,0,k⟩).goOn 2).unawait,0):=by
 have e:ql4 c ⟨7,ch,0,0,R,0,k⟩=0:=by
  unfold ql4;rw[if_neg (by rw[f];decide),if_neg (by rw[i];show ¬(k≠k+1-1);omega),if_neg (by show ¬(qd6 R (65535-k) c.shelf≠0);rw[q];decide)]
 unfold Ch.hearRevoke;rw[if_pos e]
theorem zbj{R:List Int}{ch:Int}(q:qd6 R (65535-k) sh=0)(f:qab 2 L=L1)(i:∀z∈L1,z.state≠9) :
  (Ch.mk s ⟨k+1,hd,true,no,nt,f1,f2,rv⟩ x y L sh nw la).hearRevoke ⟨7,ch,0,0,R,0,k⟩=(Ch.mk s ⟨k+1,hd,false,no,nt,f1,f2,rv⟩ x y L1 (qit R (65535-k) sh) nw la,0):=by
 rw[qyy rfl rfl q]
 rw[qgu (L:=L1) (by exact f) i]
 rfl
theorem q5o{R:List Int}{ch:Int}(q:qd6 R (65535-k) sh=0)(f:qab 2 L=[z])(i:z.state=9) :
  (Ch.mk s ⟨k+1,hd,true,no,nt,f1,f2,rv⟩ x y L sh nw la).hearRevoke ⟨7,ch,0,0,R,0,k⟩=(Ch.mk s ⟨k+1,hd,false,no,nt,f1,f2,rv⟩ (if (z.own != z.paid)=true then IntKind.u64.wrap (x+z.h.amount) else x) (if (z.own != z.paid)=true then y else IntKind.u64.wrap (y+z.h.amount)) [] (qit R (65535-k) sh) nw la,0):=by
 rw[qyy rfl rfl q]
 rw[qqc (z:=z) (by exact f) i]
 unfold Ch.give
 cases (z.own != z.paid)<;>rfl
end
structure HearSt(c:Ch)(m:MsgV)(c':Ch)(l:List MsgV):Prop where
 ok:MsgOk m
 eq:c.hear m=(c',l,0)
 inv:c.Inv
 kind:m.kind=3∨m.kind=4∨m.kind=5∨m.kind=6∨m.kind=7∨m.kind=8
 says:∀l'∈l,MsgOk l'
 few:l.length≤1000
structure SignSt(c c':Ch)(M:MsgV)(E:Int):Prop where
 eq:c.sign=(c',M,E)
 sok:SignOk c
 ok:MsgOk M
def qf7(c:Ch)(ws:List MsgV)(c':Ch)(l f:List MsgV)(g:Bool):Prop:=(ws=[]∧c'=c∧l=[]∧f=[]∧g=false)∨(∃m,ws=m::f∧HearSt c m c' l∧g=true)
theorem qf7.no(c:Ch):qf7 c [] c [] [] false:= .inl ⟨rfl,rfl,rfl,rfl,rfl⟩
section
variable {a b a1 b1 a2 b2:Ch}{wa wb wa1 wb2 l0 l1:List MsgV}{bad g0 g1:Bool}{Ma Mb:MsgV}{Ea Eb:Int}{Q:Pr}{n:Nat}
theorem zcn(h:qf7 a wa a1 l0 wa1 g0)(f:wa.length≤1000∧wb.length≤1000):Pr.hears0 ⟨a,b,wa,wb,bad⟩=(⟨a1,b,wa1,wb++l0,bad⟩,g0)∧Pr.Ok0 ⟨a,b,wa,wb,bad⟩:=by
 rcases h with ⟨rfl,rfl,rfl,rfl,rfl⟩ | ⟨m,rfl,h,rfl⟩
 ·exact⟨show _=((⟨a1,b,[],wb++[],bad⟩:Pr),false) by rw[List.append_nil];rfl,trivial⟩
 ·refine⟨?_,h.ok,⟨h.inv,h.kind,?_,?_⟩,?_⟩
  ·show ((⟨(a.hear m).1,b,wa1,wb++(a.hear m).2.1,bad || decide ((a.hear m).2.2≠0)⟩:Pr),true)=_;rw[h.eq];simp
  ·rw[h.eq];exact h.says
  ·have:=h.few;rw[h.eq];show wb.length+l0.length≤_;omega
  ·have:=f.1;rw[List.length_cons] at this;omega
theorem zco(h:qf7 b wb b1 l1 wb2 g1)(f:wa.length≤1000∧wb.length≤1000):Pr.hears1 ⟨a,b,wa,wb,bad⟩=(⟨a,b1,wa++l1,wb2,bad⟩,g1)∧Pr.Ok1 ⟨a,b,wa,wb,bad⟩:=by
 rcases h with ⟨rfl,rfl,rfl,rfl,rfl⟩ | ⟨m,rfl,h,rfl⟩
 ·exact⟨show _=((⟨a,b1,wa++[],[],bad⟩:Pr),false) by rw[List.append_nil];rfl,trivial⟩
 ·refine⟨?_,h.ok,⟨h.inv,h.kind,?_,?_⟩,?_⟩
  ·show ((⟨a,(b.hear m).1,wa++(b.hear m).2.1,wb2,bad || decide ((b.hear m).2.2≠0)⟩:Pr),true)=_;rw[h.eq];simp
  ·rw[h.eq];exact h.says
  ·have:=h.few;rw[h.eq];show wa.length+l1.length≤_;omega
  ·have:=f.2;rw[List.length_cons] at this;omega
theorem q6w(H:qf7 a wa a1 l0 wa1 g0)(I:qf7 b (wb++l0) b1 l1 wb2 g1)(s0:SignSt a1 a2 Ma Ea)(s1:SignSt b1 b2 Mb Eb)(f:wa.length≤1000∧wb.length≤1000)(f1:wa1.length≤1000∧(wb++l0).length≤1000)(f2:(wa1++l1).length≤1000∧wb2.length≤1000) :
  (Pr.mk a b wa wb bad).RoundOk∧(Pr.mk a b wa wb bad).round=⟨a2,b2,if Eb=0 then wa1++l1++[Mb] else wa1++l1,if Ea=0 then wb2++[Ma] else wb2,bad⟩∧(Pr.mk a b wa wb bad).went=(g1 || g0 || (Ea==0) || (Eb==0)):=by
 obtain⟨C,J⟩:=zcn (b:=b) (bad:=bad) H f
 obtain⟨E,k1⟩:=zco (a:=a1) (bad:=bad) I f1
 have v:(Pr.mk a b wa wb bad).hears0.1=⟨a1,b,wa1,wb++l0,bad⟩:=by rw[C]
 have i:(Pr.mk a b wa wb bad).hears0.1.hears1.1=⟨a1,b1,wa1++l1,wb2,bad⟩:=by rw[v,E]
 have q:(Pr.mk a1 b1 (wa1++l1) wb2 bad).sign0=⟨a2,b1,wa1++l1,if Ea=0 then wb2++[Ma] else wb2,bad⟩:=by
  unfold Pr.sign0;simp only[s0.eq]
 have F:(Pr.mk a2 b1 (wa1++l1) (if Ea=0 then wb2++[Ma] else wb2) bad).sign1=⟨a2,b2,if Eb=0 then wa1++l1++[Mb] else wa1++l1,if Ea=0 then wb2++[Ma] else wb2,bad⟩:=by
  unfold Pr.sign1;simp only[s1.eq]
 refine⟨⟨J,?_,?_,?_,?_,?_,?_,?_⟩,?_,?_⟩
 ·rw[v];exact k1
 ·rw[i];exact s0.sok
 ·rw[i,q];exact s1.sok
 ·rw[i];show MsgOk a1.sign.2.1;rw[s0.eq];exact s0.ok
 ·rw[i,q];show MsgOk b1.sign.2.1;rw[s1.eq];exact s1.ok
 ·rw[i];show wb2.length<_;omega
 ·rw[i,q];show (wa1++l1).length<_;omega
 ·unfold Pr.round;rw[i,q,F]
 ·unfold Pr.went;rw[i,q,v,E,C];simp only[s0.eq,s1.eq]
theorem go_round(i:qf7 a wa a1 l0 wa1 g0)(q:qf7 b (wb++l0) b1 l1 wb2 g1)(s0:SignSt a1 a2 Ma Ea)(s1:SignSt b1 b2 Mb Eb)(f:wa.length≤1000∧wb.length≤1000)(f1:wa1.length≤1000∧(wb++l0).length≤1000)(f2:(wa1++l1).length≤1000∧wb2.length≤1000)
  (v:(g1 || g0 || (Ea==0) || (Eb==0))=true) (next:Rests n ⟨a2,b2,if Eb=0 then wa1++l1++[Mb] else wa1++l1,if Ea=0 then wb2++[Ma] else wb2,bad⟩ Q):Rests (n+1) ⟨a,b,wa,wb,bad⟩ Q:=by
 obtain⟨C,E,F⟩:=q6w (bad:=bad) i q s0 s1 f f1 f2
 exact .step n _ Q C (by rw[F];exact v) (by rw[E];exact next)
end
structure Duo(s t:SetupV):Prop where
 ch:s.ch=t.ch
 chb:0≤s.ch∧s.ch<4294967296
 k1:s.key=t.peer
 k2:s.peer=t.key
 s1:s.key.size≤1000
 s2:t.key.size≤1000
 sl:s.seed.length=32
 tl:t.seed.length=32
 sb:qbp s.seed
 tb:qbp t.seed
theorem Duo.symm{s t:SetupV}(D:Duo s t):Duo t s:=⟨D.ch.symm,D.ch▸D.chb,D.k2.symm,D.k1.symm,D.s2,D.s1,D.tl,D.sl,D.tb,D.sb⟩
def qj6(j n:Int)(h:Vector Int 32)(e:Int)(ow:Bool)(st:Int)(pd:Bool):Live:=⟨⟨j,n,h,e⟩,ow,st,pd⟩
noncomputable def qod(s:SetupV)(k x y:Int)(xs:List Live):MsgV:=⟨6,s.ch,0,0,qbe false s.key s.ch k x y xs,0,k⟩
def qkr(s:SetupV)(k:Int):MsgV:=⟨7,s.ch,0,0,(qcz s.seed (65535-k)).1,0,k⟩
def qwm(s:SetupV)(j n:Int)(h:Vector Int 32)(e:Int):MsgV:=⟨3,s.ch,j,n,h.toList,e,0⟩
def qj5(s:SetupV)(j:Int)(p:List Int):MsgV:=⟨4,s.ch,j,0,p,0,0⟩
def qj4(s:SetupV)(j r:Int):MsgV:=⟨5,s.ch,j,0,ze,0,r⟩
theorem q59(c:Int)(T:List Int){n:Int}(f:0≤n∧n≤65535):qap ⟨7,c,0,0,T,0,n⟩=true:=by
 unfold qap;show (if (0:Int)<0∨1073741824<(0:Int)∨n<0∨65535<n∨1125899906842624<(0:Int) then false else decide (qgj _ _=qbh 7))=true;rw[if_neg (by omega)];kernel_rfl
theorem qpf(b:Bool)(key:ByteArray)(ch n l r:Int)(xs:List Live):qbp (qbe b key ch n l r xs):=by unfold qbe qpv;exact qf3 _
section
variable {s t:SetupV}{sg hd no nt x y j n e k r:Int}{f1 f2 rv aw pd ow:Bool}{h:Vector Int 32}{L L1 L2 xs:List Live}{sh:List KeptV}{nw la:List MsgV}{p:List Int}{c:Ch}
theorem qio(i:0≤s.ch∧s.ch<4294967296)(f:0≤k∧k≤65535):SayOk (qod s k x y xs) :=
 qlg (by decide) i (by decide) (by decide) (qgh _ _ _ _ _ _ _) (qpf _ _ _ _ _ _ _) (by decide) f (qqp _ _ f)
theorem qgt(m:0≤s.ch∧s.ch<4294967296)(q:s.seed.length=32)(i:qbp s.seed)(f:0≤k∧k≤65535):SayOk (qkr s k) :=
 qlg (by decide) m (by decide) (by decide) (qlx _ q _) (qms _ i _) (by decide) f (q59 _ _ f)
theorem qoc(q:0≤s.ch∧s.ch<4294967296)(v:0≤j∧j<18446744073709551616)(i:0≤n∧n≤1125899906842624)(m:∀b∈h.toList,0≤b∧b≤255)(f:0≤e∧e≤1073741824):SayOk (qwm s j n h e) :=
 qlg (by decide) q v i (by simp) m f (by decide) (q57 _ i.2 f)
theorem q5b(D:Duo s t)(m:qez t.seed sh)(q:hd≤65535)(f:L.length≤16):(Ch.mk s ⟨sg,hd,aw,no,nt,f1,f2,rv⟩ x y L sh nw la).Inv :=
 ⟨fun p i=>(m p i).1,by show s.peer.size≤_;rw[D.k2];have:=D.s2;omega,D.chb,by show hd<_;omega,f⟩
theorem qip{m:MsgV}(h:m.kind≠9):c.hears m=c.hear m:=by unfold Ch.hears;rw[if_neg h]
theorem qyu(D:Duo s t)(C:0≤sg∧sg≤60000)(m:qa7 1 L=true)(i:qab 1 L=L1)(f:∀z∈L1,z.state≠9)(v:nw.length≤1000)(q:L.length≤16) :
  SignC (Ch.mk s ⟨sg,hd,false,no,nt,f1,f2,rv⟩ x y L sh nw la) (Ch.mk s ⟨sg+1,hd,true,no,nt,f1,f2,false⟩ x y L1 sh [] (nw++[qod s (sg+1) x y L1])) [qod s (sg+1) x y L1] :=
 ⟨.inl ⟨_,zb0 (by omega) m i f,rfl,qio D.chb ⟨by omega,by omega⟩⟩,by show s.key.size≤_;have:=D.s1;omega,D.chb,by show nw.length<_;omega,q⟩
theorem q99(D:Duo s t)(f:c.s=s)(h:c.k.awaits=true∨qa7 1 c.xs=false)(m:c.news.length≤1000)(i:c.xs.length≤16):SignC c c [] :=
 ⟨.inr ⟨zb1 c h,rfl,rfl⟩,by rw[f];have:=D.s1;omega,by rw[f];exact D.chb,by omega,i⟩
theorem zbg(D:Duo s t)(J:0≤hd∧hd≤60000)(m:qez t.seed sh)(C:L.length≤16)(E:L2.length≤16)(I:la.length≤1000)(F:qa7 3 L=true)(q:qab 3 L=xs.map qek)(f:∀z∈xs.map qek,z.state≠9)(v:qab 4 (xs.map qek)=L2)(i:∀z∈L2,z.state≠9) :
  HearC (Ch.mk s ⟨sg,hd,aw,no,nt,f1,f2,rv⟩ x y L sh nw la) (qod t (hd+1) y x xs) (Ch.mk s ⟨sg,hd+1,aw,no,nt,f1,f2,true⟩ x y L2 sh nw la) [qkr s hd]:=by
 refine⟨qio D.symm.chb ⟨by omega,by omega⟩,⟨by show (3:Int)≤6;decide,by show (6:Int)≤9;decide⟩,?_,q5b D m (by omega) C,by show la.length≤_;omega,(fun l H=>by rw[List.mem_singleton.1 H];exact qgt D.chb D.sl D.sb ⟨by omega,by omega⟩),by show (1:Nat)≤_;decide,by show L2.length≤_;omega⟩
 rw[qip (by show (6:Int)≠9;decide)]
 refine(qyw (qio D.symm.chb ⟨by omega,by omega⟩).may (by exact D.ch.symm) (by rfl)).trans ?_
 have e:=zbk (s:=s) (sg:=sg) (hd:=hd) (no:=no) (nt:=nt) (x:=x) (y:=y) (f1:=f1) (f2:=f2) (rv:=rv) (aw:=aw) (sh:=sh) (nw:=nw) (la:=la) (T:=qbe false t.key t.ch (hd+1) y x xs) J.1 F q f v i (by rw[D.k2,←D.ch];exact(qi8 _ _ _ _ _ _).symm)
 unfold qod qkr
 rw[←D.ch] at e ⊢
 exact e
def qju(f:Bool)(n x:Int):Int:=if f=true then IntKind.u64.wrap (x+n) else x
theorem q0p(D:Duo s t)(H:0≤hd∧hd≤60000)(i:qez t.seed sh)(v:L.length≤16)(F:la.length≤1000)(C:qa7 3 L=true)(m:qab 3 L=xs.map qek)(f:∀z∈xs.map qek,z.state≠9)(q:qab 4 (xs.map qek)=[qj6 j n h e ow 9 pd]) :
  HearC (Ch.mk s ⟨sg,hd,aw,no,nt,f1,f2,rv⟩ x y L sh nw la) (qod t (hd+1) y x xs) (Ch.mk s ⟨sg,hd+1,aw,no,nt,f1,f2,true⟩ (qju (ow != pd) n x) (qju (!(ow != pd)) n y) [] sh nw la) [qkr s hd]:=by
 refine⟨qio D.symm.chb ⟨by omega,by omega⟩,⟨by show (3:Int)≤6;decide,by show (6:Int)≤9;decide⟩,?_,q5b D i (by omega) v,by show la.length≤_;omega,(fun l E=>by rw[List.mem_singleton.1 E];exact qgt D.chb D.sl D.sb ⟨by omega,by omega⟩),by show (1:Nat)≤_;decide,Nat.zero_le _⟩
 rw[qip (by show (6:Int)≠9;decide)]
 refine(qyw (qio D.symm.chb ⟨by omega,by omega⟩).may (by exact D.ch.symm) (by rfl)).trans ?_
 have e:=q5p (s:=s) (sg:=sg) (hd:=hd) (no:=no) (nt:=nt) (x:=x) (y:=y) (f1:=f1) (f2:=f2) (rv:=rv) (aw:=aw) (sh:=sh) (nw:=nw) (la:=la) (T:=qbe false t.key t.ch (hd+1) y x xs) H.1 C m f q rfl (by rw[D.k2,←D.ch];exact(qi8 _ _ _ _ _ _).symm)
 unfold qod qkr
 rw[←D.ch] at e ⊢
 refine e.trans ?_
 unfold qju
 show (Ch.mk s _ (if (ow != pd)=true then _ else _) (if (ow != pd)=true then _ else _) [] sh nw la,_,(0:Int))=_
 cases ow<;>cases pd<;>rfl
theorem zbf(D:Duo s t)(I:0≤sg∧sg≤60000)(f:qez t.seed sh)(E:hd≤65535)(v:L.length≤16)(C:L1.length≤16)(H:la.length≤1000)(m:qab 2 L=L1)(q:∀z∈L1,z.state≠9) :
  HearC (Ch.mk s ⟨sg+1,hd,true,no,nt,f1,f2,rv⟩ x y L sh nw la) (qkr t sg) (Ch.mk s ⟨sg+1,hd,false,no,nt,f1,f2,rv⟩ x y L1 (qit (qkr t sg).hash (65535-sg) sh) nw la) []:=by
 refine⟨qgt D.symm.chb D.tl D.tb ⟨by omega,by omega⟩,⟨by show (3:Int)≤7;decide,by show (7:Int)≤9;decide⟩,?_,q5b D f E v,by show la.length≤_;omega,(fun l F=>by cases F),Nat.zero_le _,by show L1.length≤_;omega⟩
 rw[qip (by show (7:Int)≠9;decide)]
 refine(qyx (qgt D.symm.chb D.tl D.tb ⟨by omega,by omega⟩).may (by exact D.ch.symm) (by rfl)).trans ?_
 have e:=zbj (s:=s) (hd:=hd) (no:=no) (nt:=nt) (x:=x) (y:=y) (f1:=f1) (f2:=f2) (rv:=rv) (nw:=nw) (la:=la) (ch:=t.ch) (q5q (h:=t.seed) (i:=65535-sg) (ps:=sh) (qsh (by omega) (by omega)) f) m q
 exact congrArg (fun p:Ch × Int=>(p.1,([]:List MsgV),p.2)) e
theorem q0o(D:Duo s t)(E:0≤sg∧sg≤60000)(f:qez t.seed sh)(v:hd≤65535)(q:L.length≤16)(C:la.length≤1000)(m:qab 2 L=[qj6 j n h e ow 9 pd]) :
  HearC (Ch.mk s ⟨sg+1,hd,true,no,nt,f1,f2,rv⟩ x y L sh nw la) (qkr t sg) (Ch.mk s ⟨sg+1,hd,false,no,nt,f1,f2,rv⟩ (qju (ow != pd) n x) (qju (!(ow != pd)) n y) [] (qit (qkr t sg).hash (65535-sg) sh) nw la) []:=by
 refine⟨qgt D.symm.chb D.tl D.tb ⟨by omega,by omega⟩,⟨by show (3:Int)≤7;decide,by show (7:Int)≤9;decide⟩,?_,q5b D f v q,by show la.length≤_;omega,(fun l z=>by cases z),Nat.zero_le _,Nat.zero_le _⟩
 rw[qip (by show (7:Int)≠9;decide)]
 refine(qyx (qgt D.symm.chb D.tl D.tb ⟨by omega,by omega⟩).may (by exact D.ch.symm) (by rfl)).trans ?_
 have e:=q5o (s:=s) (hd:=hd) (no:=no) (nt:=nt) (x:=x) (y:=y) (f1:=f1) (f2:=f2) (rv:=rv) (nw:=nw) (la:=la) (ch:=t.ch) (q5q (h:=t.seed) (i:=65535-sg) (ps:=sh) (qsh (by omega) (by omega)) f) m rfl
 refine(congrArg (fun p:Ch × Int=>(p.1,([]:List MsgV),p.2)) e).trans ?_
 unfold qju
 show (Ch.mk s _ (if (ow != pd)=true then _ else _) (if (ow != pd)=true then _ else _) [] _ nw la,_,(0:Int))=_
 cases ow<;>cases pd<;>rfl
theorem q5c(D:Duo s t)(f:qez t.seed sh):qez t.seed (qit (qkr t sg).hash (65535-sg) sh):=q5r D.tb f
theorem qww(h:Vector Int 32):qa6 h.toList=h:=by
 unfold qa6;rw[dif_pos (by simp)];rfl
theorem zcm(D:Duo s t)(I:1≤n∧n≤1125899906842624)(H:0≤j∧j≤60000)(J:n≤y)(F:1≤e∧e≤1073741824)(v:∀b∈h.toList,0≤b∧b≤255)(i:qez t.seed sh)(z:hd≤65535)(E:la.length≤1000) :
  HearC (Ch.mk s ⟨sg,hd,aw,no,j,f1,false,rv⟩ x y [] sh nw la) (qwm t j n h e) (Ch.mk s ⟨sg,hd,aw,no,j+1,f1,false,rv⟩ x (y-n) [qj6 j n h e false 0 false] sh nw la) []:=by
 have f:SayOk (qwm t j n h e):=qoc D.symm.chb ⟨by omega,by omega⟩ ⟨by omega,by omega⟩ v ⟨by omega,by omega⟩
 refine⟨f,⟨by show (3:Int)≤3;decide,by show (3:Int)≤9;decide⟩,?_,q5b D i z (Nat.zero_le _),by show la.length≤_;omega,(fun l C=>by cases C),Nat.zero_le _,by show (1:Nat)≤_;decide⟩
 rw[qip (by show (3:Int)≠9;decide)]
 refine(q8y f.may (by exact D.ch.symm) (by rfl)).trans ?_
 have m:qa4 (Ch.mk s ⟨sg,hd,aw,no,j,f1,false,rv⟩ x y [] sh nw la) (qwm t j n h e)=0:=by
  unfold qa4;rw[if_neg (by show ¬(false=true);decide),if_neg (by show ¬(n=0);omega),if_neg (by show ¬(j≠j);omega),if_neg (by show ¬(e=0);omega),if_neg (by show ¬(8≤0);decide),if_neg (by show ¬(y<n);omega)]
 have a:(Ch.mk s ⟨sg,hd,aw,no,j,f1,false,rv⟩ x y [] sh nw la).added (qwm t j n h e)=Ch.mk s ⟨sg,hd,aw,no,j+1,f1,false,rv⟩ x (y-n) [qj6 j n h e false 0 false] sh nw la:=by
  show (Ch.mk s ⟨sg,hd,aw,no,IntKind.u64.wrap (j+1),f1,false,rv⟩ x (y-n) [⟨⟨j,n,qa6 h.toList,e⟩,false,0,false⟩] sh nw la)=_;rw[qww,qgi (by omega) (by omega)];rfl
 have q:(Ch.mk s ⟨sg,hd,aw,no,j,f1,false,rv⟩ x y [] sh nw la).hearAdd (qwm t j n h e)=(Ch.mk s ⟨sg,hd,aw,no,j+1,f1,false,rv⟩ x (y-n) [qj6 j n h e false 0 false] sh nw la,0):=by
  unfold Ch.hearAdd;rw[if_pos m,a]
 exact congrArg (fun p:Ch × Int=>(p.1,([]:List MsgV),p.2)) q
theorem qtd:qdl ow j [qj6 j n h e ow 4 false]=some (0,qj6 j n h e ow 4 false):=by
 unfold qdl;have:qfr ow j (qj6 j n h e ow 4 false)=true:=by simp[qfr,qj6]
 simp[List.findIdx?_cons,this]
end
structure En where
 c:Ch
 t:Nat
 wt:Bool
 w:List MsgV
 o:List MsgV
 es:List EvV
structure StE(A:En)(n:Nat)(l:Lk)(way:ByteArray)(es:List EvV):Prop where
 l:LkC l A.c A.t A.wt (qam A.o ⟨#[]⟩) ⟨#[]⟩ n
 way:way=qam A.w ⟨#[]⟩
 es:es=A.es
 sw:∀m∈A.w,SayOk m
 so:∀m∈A.o,SayOk m
 lw:A.w.length≤200
 lo:A.o.length≤200
structure StP(A B:En)(n:Nat)(P:Pw):Prop where
 a:StE A n (P.l 0) (P.way 0) (P.es 0)
 b:StE B n (P.l 1) (P.way 1) (P.es 1)
 bad:P.bad=false
 n:n≤900000
theorem StE.mono{A:En}{n m:Nat}{l:Lk}{way:ByteArray}{es:List EvV}(h:StE A n l way es)(f:n≤m):StE A m l way es:=⟨h.l.mono f,h.way,h.es,h.sw,h.so,h.lw,h.lo⟩
theorem qbu{M:List MsgV}(h:∀m∈M,SayOk m)(f:M.length≤1000):(qam M ⟨#[]⟩).size≤2000000:=by
 have:=qg8 ⟨#[]⟩ M h ⟨#[]⟩;have e:(⟨#[]⟩:ByteArray).size=0:=rfl;omega
theorem q8t(s:ByteArray):s.extract 0 s.size=s:=bx (by rw[qrw,List.drop_zero,Nat.sub_zero,List.take_of_length_le (by rw[qjc];exact Nat.le_refl _)])
theorem q8u(s:ByteArray):s.extract s.size s.size=⟨#[]⟩:=bx (by rw[qrw,Nat.sub_self,List.take_zero])
def En.heard(A:En)(c:Ch)(wt:Bool)(es:List EvV)(s:List MsgV):En:= {A with c:=c,wt:=wt,es:=es,w:=[],o:=A.o++s}
def En.goes(A B:En):En:= {A with o:=[],w:=A.w++B.o}
theorem StP.flowOk{A B:En}{n:Nat}{P:Pw}(h:StP A B n P):FlowOk P:=by
 refine⟨fun k f=> ?_,fun k f=> ?_⟩
 ·rcases (by omega:k=0∨k=1) with rfl | rfl
  ·exact h.a.l.dead
  ·exact h.b.l.dead
 ·have a1:=qbu h.a.sw (by have:=h.a.lw;omega);have a2:=qbu h.a.so (by have:=h.a.lo;omega);have b1:=qbu h.b.sw (by have:=h.b.lw;omega);have b2:=qbu h.b.so (by have:=h.b.lo;omega);rcases (by omega:k=0∨k=1) with rfl | rfl
  ·rw[h.a.way,h.a.l.out];omega
  ·rw[h.b.way,h.b.l.out];omega
theorem qqx(o:ByteArray)(M:List MsgV):o++qam M ⟨#[]⟩=qam M o:=(q2l M o).symm
theorem StP.flow{A B:En}{n:Nat}{P:Pw}(h:StP A B n P)(i:A.w.length+B.o.length≤200∧B.w.length+A.o.length≤200):StP (A.goes B) (B.goes A) n P.flow:=by
 have wa:P.flow.way 0=P.way 0++(P.l 1).out:=rfl;have wb:P.flow.way 1=P.way 1++(P.l 0).out:=rfl;refine⟨⟨h.a.l.outs,?_,h.a.es,?_,(fun m f=>by cases f),?_,Nat.zero_le _⟩,⟨h.b.l.outs,?_,h.b.es,?_,(fun m f=>by cases f),?_,Nat.zero_le _⟩,h.bad,h.n⟩
 ·rw[wa,h.a.way,h.b.l.out];show _=qam (A.w++B.o) ⟨#[]⟩;rw[qfp,qqx]
 ·exact fun m f=>(List.mem_append.1 f).elim (h.a.sw m) (h.b.so m)
 ·show (A.w++B.o).length≤_;rw[List.length_append];omega
 ·rw[wb,h.b.way,h.a.l.out];show _=qam (B.w++A.o) ⟨#[]⟩;rw[qfp,qqx]
 ·exact fun m f=>(List.mem_append.1 f).elim (h.b.sw m) (h.a.so m)
 ·show (B.w++A.o).length≤_;rw[List.length_append];omega
theorem StE.hears{A:En}{n:Nat}{l:Lk}{way:ByteArray}{es:List EvV}(h:StE A n l way es){c:Ch}{wt:Bool}{es':List EvV}{s:List MsgV}(q:HearL A.c A.wt A.es A.w c wt es' s)(F:A.o.length+s.length≤200)(E:n≤900000) :
  ∃L,Bts {l with rest:=l.rest++way.extract 0 way.size} es L es' 0∧StE (A.heard c wt es' s) (n+500) L (way.extract way.size way.size) es':=by
 have i:=h.l.comes (way.extract 0 way.size)
 have e:(⟨#[]⟩:ByteArray)++way.extract 0 way.size=qam A.w ⟨#[]⟩:=by
  rw[q8t,←h.way];exact ByteArray.empty_append
 rw[e] at i
 have C:=h.lw
 obtain⟨L,z,v⟩:=q8e q i (by omega)
 rw[h.es]
 refine⟨L,z,?_,q8u _,rfl,(fun m f=>by cases f),?_,Nat.zero_le _,?_⟩
 ·show LkC L c A.t wt (qam (A.o++s) ⟨#[]⟩) ⟨#[]⟩ (n+500);rw[qfp];exact v.mono (by omega)
 ·exact fun m f=>(List.mem_append.1 f).elim (h.so m) (q.say.2 m)
 ·show (A.o++s).length≤_;rw[List.length_append];omega
theorem StP.come0{A B:En}{n:Nat}{P:Pw}(h:StP A B n P){c:Ch}{wt:Bool}{es':List EvV}{s:List MsgV}(v:HearL A.c A.wt A.es A.w c wt es' s)(J:A.o.length+s.length≤100∧B.o.length≤100∧B.w.length≤100)(I:n≤800000) :
  ∃L,ComeOk P 0 (P.way 0).size L es' 0∧StP ((A.heard c wt es' s).goes B) (B.goes (A.heard c wt es' s)) (n+500) (P.all 0 L es' 0):=by
 obtain⟨L,q,i⟩:=h.a.hears v (by omega) (by omega)
 have f:=h.flowOk
 have a1:=qbu h.a.sw (by have:=h.a.lw;omega)
 have a2:=qbu h.a.so (by have:=h.a.lo;omega)
 have b1:=qbu h.b.sw (by have:=h.b.lw;omega)
 have b2:=qbu h.b.so (by have:=h.b.lo;omega)
 have E:=qbu i.so (by have:=i.lo;omega)
 have C:StP (A.heard c wt es' s) B (n+500) (P.came 0 ((P.way 0).extract (P.way 0).size (P.way 0).size) L es' 0):=by
  have m:(P.bad || (0:Int) != 0)=false:=by rw[h.bad];rfl
  exact⟨i,(h.b.mono (by omega)),m,by omega⟩
 refine⟨L,⟨f.dead,h.a.l.broken,by rw[h.a.l.rest];rfl,by rw[h.a.l.rest];exact Nat.zero_le _,?_,?_,Nat.le_refl _,q,i.l.dead,by rw[i.l.out];omega⟩,C.flow ?_⟩
 ·intro j z;rcases (by omega:j=0∨j=1) with rfl | rfl
  ·rw[h.a.way];omega
  ·rw[h.b.way];omega
 ·intro j z;rcases (by omega:j=0∨j=1) with rfl | rfl
  ·rw[h.a.l.out];omega
  ·rw[h.b.l.out];omega
 ·have F:([]:List MsgV).length=0:=rfl;have H:(A.o++s).length=A.o.length+s.length:=List.length_append;exact⟨by show ([]:List MsgV).length+_≤_;omega,by show _+(A.o++s).length≤_;omega⟩
theorem StP.come1{A B:En}{n:Nat}{P:Pw}(h:StP A B n P){c:Ch}{wt:Bool}{es':List EvV}{s:List MsgV}(v:HearL B.c B.wt B.es B.w c wt es' s)(J:B.o.length+s.length≤100∧A.o.length≤100∧A.w.length≤100)(I:n≤800000) :
  ∃L,ComeOk P 1 (P.way 1).size L es' 0∧StP (A.goes (B.heard c wt es' s)) ((B.heard c wt es' s).goes A) (n+500) (P.all 1 L es' 0):=by
 obtain⟨L,q,i⟩:=h.b.hears v (by omega) (by omega)
 have f:=h.flowOk
 have a1:=qbu h.a.sw (by have:=h.a.lw;omega)
 have a2:=qbu h.a.so (by have:=h.a.lo;omega)
 have b1:=qbu h.b.sw (by have:=h.b.lw;omega)
 have b2:=qbu h.b.so (by have:=h.b.lo;omega)
 have E:=qbu i.so (by have:=i.lo;omega)
 have C:StP A (B.heard c wt es' s) (n+500) (P.came 1 ((P.way 1).extract (P.way 1).size (P.way 1).size) L es' 0):=by
  have m:(P.bad || (0:Int) != 0)=false:=by rw[h.bad];rfl
  exact⟨(h.a.mono (by omega)),i,m,by omega⟩
 refine⟨L,⟨f.dead,h.b.l.broken,by rw[h.b.l.rest];rfl,by rw[h.b.l.rest];exact Nat.zero_le _,?_,?_,Nat.le_refl _,q,i.l.dead,by rw[i.l.out];omega⟩,C.flow ?_⟩
 ·intro j z;rcases (by omega:j=0∨j=1) with rfl | rfl
  ·rw[h.a.way];omega
  ·rw[h.b.way];omega
 ·intro j z;rcases (by omega:j=0∨j=1) with rfl | rfl
  ·rw[h.a.l.out];omega
  ·rw[h.b.l.out];omega
 ·have F:([]:List MsgV).length=0:=rfl;have H:(B.o++s).length=B.o.length+s.length:=List.length_append;exact⟨by show _+(B.o++s).length≤_;omega,by show ([]:List MsgV).length+_≤_;omega⟩
theorem q9m{c:Ch}(C:0≤c.s.ch∧c.s.ch<4294967296)(F:0≤c.k.signed∧c.k.signed≤65535):(c.sign.2.2=0→SayOk c.sign.2.1)∧c.sign.2.1.hash.length=32:=by
 unfold Ch.sign;by_cases h:qec c=0
 ·rw[if_pos h];have E:c.k.signed≠65535:=by
   intro e;unfold qec at h;rw[if_pos e] at h;split at h
   ·omega
   ·split at h<;>omega
  have f:=qgh false c.s.key c.s.ch (c.k.signed+1) c.signing.loc c.signing.rem c.signing.xs;have i:=qpf false c.s.key c.s.ch (c.k.signed+1) c.signing.loc c.signing.rem c.signing.xs;have q:∃T:List Int,T.length=32∧qbp T∧(qcp c).on c.s.ch=⟨6,c.s.ch,0,0,T,0,c.k.signed+1⟩:=by
   unfold qcp;generalize qbe false c.s.key c.s.ch (c.k.signed+1) c.signing.loc c.signing.rem c.signing.xs=T at f i;exact⟨T,f,i,rfl⟩
  clear f i;obtain⟨T,f,i,q⟩:=q;have v:((qcp c).on c.s.ch).hash.length=32:=by
   rw[q];exact f
  have z:SayOk ((qcp c).on c.s.ch):=by
   rw[q];exact qlg (by decide) C (by decide) (by decide) f i (by decide) ⟨by omega,by omega⟩ (qqp _ _ ⟨by omega,by omega⟩)
  clear q;generalize (qcp c).on c.s.ch=m at v z;exact⟨fun _=>z,v⟩
 ·rw[if_neg h];exact⟨fun e=>absurd e h,qo⟩
structure EndB(c:Ch):Prop where
 key:c.s.key.size≤100000000
 ch:0≤c.s.ch∧c.s.ch<4294967296
 sg:0≤c.k.signed∧c.k.signed≤65535
 news:c.news.length<1000000
 xs:c.xs.length≤16
def qh3(t:Nat)(wt:Bool)(c c':Ch)(M:List MsgV):Prop:=EndB c∧(if wt=true∨(t+1)%3≠0 then c'=c∧M=[] else SignC c c' M)
def En.ticks(A:En)(c:Ch)(M:List MsgV):En:= {A with c:=c,t:=A.t+1,o:=A.o++M}
theorem StE.ticks{A:En}{n:Nat}{l:Lk}{way:ByteArray}{es:List EvV}(h:StE A n l way es){c':Ch}{M:List MsgV}(z:qh3 A.t A.wt A.c c' M)(U:A.o.length≤150)(T:n≤900000)(R:A.t<900000) :
  TickOk l A.t∧l.tickE A.t=0∧StE (A.ticks c' M) (n+1) (l.tick A.t) way es:=by
 obtain⟨v,z⟩:=z
 obtain⟨F,O⟩:=q9m v.ch v.sg
 have q:=h.l.c
 have N:TickOk l A.t:=⟨h.l.ok (by omega),h.l.ticks,by omega,by rw[q];exact F,by rw[q];exact O,by rw[q];exact v.key,by rw[q];exact v.ch,by rw[q];exact v.news,by rw[q];exact v.xs⟩
 refine⟨N,?_⟩
 have P:LkC ({l with ticks:=(A.t:Int)+1} : Lk) A.c ((A.t:Int)+1) A.wt (qam A.o ⟨#[]⟩) ⟨#[]⟩ n:=⟨h.l.c,rfl,h.l.waits,h.l.out,h.l.rest,h.l.dead,h.l.broken,h.l.fused,h.l.off,h.l.many,h.l.len,h.l.outn⟩
 have i:(l.waits=true∨(A.t+1)%3≠0)↔(A.wt=true∨(A.t+1)%3≠0):=by rw[h.l.waits]
 have J:=P.mono (m:=n+1) (by omega)
 by_cases f:A.wt=true∨(A.t+1)%3≠0
 ·have H:l.tickE A.t=0:=by unfold Lk.tickE;rw[if_pos (i.2 f)]
  have I:l.tick A.t = {l with ticks:=(A.t:Int)+1} := by unfold Lk.tick;rw[if_pos (i.2 f)]
  rw[if_pos f] at z;obtain⟨rfl,rfl⟩:=z;rw[H,I];refine⟨rfl,?_,h.way,h.es,h.sw,?_,h.lw,?_⟩
  ·show LkC _ A.c ((A.t:Int)+1) A.wt (qam (A.o++[]) ⟨#[]⟩) ⟨#[]⟩ (n+1);rw[List.append_nil];exact J
  ·exact fun m E=>(List.mem_append.1 E).elim (h.so m) (fun e=>by cases e)
  ·show (A.o++[]).length≤_;rw[List.append_nil];omega
 ·have H:l.tickE A.t=qlm A.c.sign.2.2:=by unfold Lk.tickE;rw[if_neg (fun e=>f (i.1 e)),q]
  have I:l.tick A.t=({l with ticks:=(A.t:Int)+1} : Lk).signs:=by unfold Lk.tick;rw[if_neg (fun e=>f (i.1 e))]
  rw[if_neg f] at z;have C:LkC (({l with ticks:=(A.t:Int)+1} : Lk).signs) A.c.sign.1 ((A.t:Int)+1) A.wt (if A.c.sign.2.2=0 then qam A.o ⟨#[]⟩++qeb A.c.sign.2.1 else qam A.o ⟨#[]⟩) ⟨#[]⟩ (n+1):=by
   have:=P.acts (rec:=qx 4 1) (c':=A.c.sign.1) (m:=A.c.sign.2.1) (er:=A.c.sign.2.2) (by rw[qaq];decide) F;unfold Lk.signs;show LkC (Lk.acts _ l.c.sign.1 (qx 4 1) l.c.sign.2.1 l.c.sign.2.2) _ _ _ _ _ _;rw[q];exact this
  rw[H,I];generalize ({l with ticks:=(A.t:Int)+1} : Lk).signs=l2 at C;rcases z.eq with ⟨m,K,rfl,E⟩ | ⟨K,rfl,rfl⟩
  ·rw[K] at C ⊢;refine⟨rfl,?_,h.way,h.es,h.sw,?_,h.lw,?_⟩
   ·show LkC l2 c' ((A.t:Int)+1) A.wt (qam (A.o++[m]) ⟨#[]⟩) ⟨#[]⟩ (n+1);rw[qfp];exact C
   ·exact fun S L=>(List.mem_append.1 L).elim (h.so S) (fun e=>by rw[List.mem_singleton.1 e];exact E)
   ·show (A.o++[m]).length≤_;rw[List.length_append,List.length_singleton];omega
  ·rw[K] at C ⊢;refine⟨rfl,?_,h.way,h.es,h.sw,?_,h.lw,?_⟩
   ·show LkC l2 A.c ((A.t:Int)+1) A.wt (qam (A.o++[]) ⟨#[]⟩) ⟨#[]⟩ (n+1);rw[List.append_nil];exact C
   ·exact fun m E=>(List.mem_append.1 E).elim (h.so m) (fun e=>by cases e)
   ·show (A.o++[]).length≤_;rw[List.append_nil];omega
structure RoundG(A B A' B':En):Prop where
 ex:∃a1 wta ea s0 b1 wtb eb s1 a2 Ma b2 Mb,HearL A.c A.wt A.es A.w a1 wta ea s0∧HearL B.c B.wt B.es (B.w++s0) b1 wtb eb s1∧qh3 A.t wta a1 a2 Ma∧qh3 B.t wtb b1 b2 Mb ∧
  s0.length≤30∧s1.length≤30∧Ma.length≤1∧Mb.length≤1∧A'=⟨a2,A.t+1,wta,s1++Mb,[],ea⟩∧B'=⟨b2,B.t+1,wtb,Ma,[],eb⟩
 oa:A.o=[]
 ob:B.o=[]
 wa:A.w.length≤40
 wb:B.w.length≤40
 ta:A.t<800000
 tb:B.t<800000
theorem StP.round{A B K L:En}{n:Nat}{P:Pw}(h:StP A B n P)(r:RoundG A B K L)(hn:n≤700000):∃Q,RoundOk P Q∧StP K L (n+1010) Q:=by
 obtain⟨a1,f,i,s0,b1,q,m,s1,a2,Ma,b2,Mb,W,X,Z,tB,l0,l1,lA,lB,rfl,rfl⟩:=r.ex;have oa:=r.oa;have ob:=r.ob;have wa:=r.wa;have wb:=r.wb;have z:([]:List MsgV).length=0:=rfl;obtain⟨C,I,N⟩:=h.come0 W (by rw[oa,ob];omega) (by omega);have S:(A.heard a1 f i s0).goes B=⟨a1,A.t,f,[],[],i⟩:=by
  show En.mk a1 A.t f ([]++B.o) [] i=_;rw[ob];rfl
 have T:B.goes (A.heard a1 f i s0)=⟨B.c,B.t,B.wt,B.w++s0,[],B.es⟩:=by
  show En.mk B.c B.t B.wt (B.w++(A.o++s0)) [] B.es=_;rw[oa];rfl
 rw[S,T] at N;have e2:(B.w++s0).length=B.w.length+s0.length:=List.length_append;obtain⟨L1,J,E⟩:=N.come1 (c:=b1) (wt:=q) (es':=m) (s:=s1) X ⟨by show 0+s1.length≤_;omega,Nat.zero_le _,Nat.zero_le _⟩ (by omega);have E:StP ⟨a1,A.t,f,s1,[],i⟩ ⟨b1,B.t,q,[],[],m⟩ (n+500+500) ((P.all 0 C i 0).all 1 L1 m 0):=E;obtain⟨t0,O,U⟩:=E.a.ticks (c':=a2) (M:=Ma) Z (Nat.zero_le _) (by omega) (by have:=r.ta;show A.t<_;omega);have v:StP ((⟨a1,A.t,f,s1,[],i⟩:En).ticks a2 Ma) ⟨b1,B.t,q,[],[],m⟩ (n+500+500+1) (((P.all 0 C i 0).all 1 L1 m 0).ticked 0 A.t):=by
  refine⟨U,E.b.mono (by omega),?_,by omega⟩;show (_ != 0 || ((P.all 0 C i 0).all 1 L1 m 0).bad)=false;rw[O,E.bad];rfl
 obtain⟨Y,R,V⟩:=v.b.ticks (c':=b2) (M:=Mb) tB (Nat.zero_le _) (by omega) (by have:=r.tb;show B.t<_;omega);have F:StP ((⟨a1,A.t,f,s1,[],i⟩:En).ticks a2 Ma) ((⟨b1,B.t,q,[],[],m⟩:En).ticks b2 Mb) (n+500+500+1+1) ((((P.all 0 C i 0).all 1 L1 m 0).ticked 0 A.t).ticked 1 B.t):=by
  refine⟨v.a.mono (by omega),V,?_,by omega⟩;show (_ != 0 || (((P.all 0 C i 0).all 1 L1 m 0).ticked 0 A.t).bad)=false;rw[R,v.bad];rfl
 have H:=F.flow ⟨by show s1.length+([]++Mb).length≤_;rw[List.nil_append];omega,by show 0+([]++Ma).length≤_;rw[List.nil_append];omega⟩;refine⟨_,⟨C,i,0,L1,m,0,A.t,B.t,I,J,t0,Y,F.flowOk,rfl⟩,?_⟩;exact⟨H.a.mono (by omega),H.b.mono (by omega),H.bad,by omega⟩
structure Pay where
 s:SetupV
 t:SetupV
 sa:Int
 sb:Int
 j:Int
 n:Int
 h:Vector Int 32
 e:Int
 x:Int
 y:Int
 sha:List KeptV
 shb:List KeptV
 la:List MsgV
 lb:List MsgV
 nt:Int
 no:Int
 ra:Bool
 rb:Bool
structure PayOk(q:Pay):Prop where
 D:Duo q.s q.t
 sa:0≤q.sa∧q.sa≤50000
 sb:0≤q.sb∧q.sb≤50000
 j:0≤q.j∧q.j≤50000
 n:1≤q.n∧q.n≤1125899906842624
 h:∀b∈q.h.toList,0≤b∧b≤255
 e:1≤q.e∧q.e≤1073741824
 x:0≤q.x
 sha:qez q.t.seed q.sha
 shb:qez q.s.seed q.shb
 la:q.la.length≤900
 lb:q.lb.length≤900
section
variable (q:Pay)(pd:Bool)(F:MsgV)
def Pay.I(ow:Bool)(st:Int)(pd:Bool):Live:=qj6 q.j q.n q.h q.e ow st pd
def Pay.add:MsgV:=qwm q.s q.j q.n q.h q.e
noncomputable def Pay.s1:MsgV:=qod q.s (q.sa+1) q.x q.y [q.I true 1 false]
noncomputable def Pay.s2:MsgV:=qod q.t (q.sb+1) q.y q.x [q.I false 3 false]
noncomputable def Pay.s3:MsgV:=qod q.t (q.sb+1+1) q.y q.x [q.I false 6 pd]
noncomputable def Pay.s4:MsgV:=qod q.s (q.sa+1+1) q.x q.y [q.I true 8 pd]
def Pay.r1:MsgV:=qkr q.t q.sa
def Pay.r2:MsgV:=qkr q.s q.sb
def Pay.r3:MsgV:=qkr q.s (q.sb+1)
def Pay.r4:MsgV:=qkr q.t (q.sa+1)
def Pay.ha1:List KeptV:=qit q.r1.hash (65535-q.sa) q.sha
def Pay.hb1:List KeptV:=qit q.r2.hash (65535-q.sb) q.shb
def Pay.hb2:List KeptV:=qit q.r3.hash (65535-(q.sb+1)) q.hb1
def Pay.ha2:List KeptV:=qit q.r4.hash (65535-(q.sa+1)) q.ha1
noncomputable def Pay.la1:List MsgV:=[q.add]++[q.s1]
noncomputable def Pay.lb1:List MsgV:=[]++[q.s2]
noncomputable def Pay.lb2:List MsgV:=[F]++[q.s3 pd]
noncomputable def Pay.la2:List MsgV:=[]++[q.s4 pd]
def Pay.a0:Ch:=⟨q.s,⟨q.sa,q.sb,false,q.j+1,q.nt,false,false,q.ra⟩,q.x,q.y,[q.I true 0 false],q.sha,[q.add],q.la⟩
def Pay.b0:Ch:=⟨q.t,⟨q.sb,q.sa,false,q.no,q.j,false,false,q.rb⟩,q.y,q.x+q.n,[],q.shb,[],q.lb⟩
def Pay.b1:Ch:=⟨q.t,⟨q.sb,q.sa,false,q.no,q.j+1,false,false,q.rb⟩,q.y,q.x,[q.I false 0 false],q.shb,[],q.lb⟩
noncomputable def Pay.a1:Ch:=⟨q.s,⟨q.sa+1,q.sb,true,q.j+1,q.nt,false,false,false⟩,q.x,q.y,[q.I true 1 false],q.sha,[],q.la1⟩
def Pay.b2:Ch:=⟨q.t,⟨q.sb,q.sa+1,false,q.no,q.j+1,false,false,true⟩,q.y,q.x,[q.I false 2 false],q.shb,[],q.lb⟩
noncomputable def Pay.a2:Ch:=⟨q.s,⟨q.sa+1,q.sb,false,q.j+1,q.nt,false,false,false⟩,q.x,q.y,[q.I true 2 false],q.ha1,[],q.la1⟩
noncomputable def Pay.b3:Ch:=⟨q.t,⟨q.sb+1,q.sa+1,true,q.no,q.j+1,false,false,false⟩,q.y,q.x,[q.I false 3 false],q.shb,[],q.lb1⟩
noncomputable def Pay.a3:Ch:=⟨q.s,⟨q.sa+1,q.sb+1,false,q.j+1,q.nt,false,false,true⟩,q.x,q.y,[q.I true 4 false],q.ha1,[],q.la1⟩
noncomputable def Pay.b4:Ch:=⟨q.t,⟨q.sb+1,q.sa+1,false,q.no,q.j+1,false,false,false⟩,q.y,q.x,[q.I false 4 false],q.hb1,[],q.lb1⟩
noncomputable def Pay.b5:Ch:=⟨q.t,⟨q.sb+1,q.sa+1,false,q.no,q.j+1,false,false,false⟩,q.y,q.x,[q.I false 5 pd],q.hb1,[F],q.lb1⟩
noncomputable def Pay.a5:Ch:=⟨q.s,⟨q.sa+1,q.sb+1,false,q.j+1,q.nt,false,false,true⟩,q.x,q.y,[q.I true 5 pd],q.ha1,[],q.la1⟩
noncomputable def Pay.b6:Ch:=⟨q.t,⟨q.sb+1+1,q.sa+1,true,q.no,q.j+1,false,false,false⟩,q.y,q.x,[q.I false 6 pd],q.hb1,[],q.lb2 pd F⟩
noncomputable def Pay.a6:Ch:=⟨q.s,⟨q.sa+1,q.sb+1+1,false,q.j+1,q.nt,false,false,true⟩,q.x,q.y,[q.I true 7 pd],q.ha1,[],q.la1⟩
noncomputable def Pay.b7:Ch:=⟨q.t,⟨q.sb+1+1,q.sa+1,false,q.no,q.j+1,false,false,false⟩,q.y,q.x,[q.I false 7 pd],q.hb2,[],q.lb2 pd F⟩
noncomputable def Pay.a7:Ch:=⟨q.s,⟨q.sa+1+1,q.sb+1+1,true,q.j+1,q.nt,false,false,false⟩,q.x,q.y,[q.I true 8 pd],q.ha1,[],q.la2 pd⟩
noncomputable def Pay.b8:Ch:=⟨q.t,⟨q.sb+1+1,q.sa+1+1,false,q.no,q.j+1,false,false,true⟩,qju (false != pd) q.n q.y,qju (!(false != pd)) q.n q.x,[],q.hb2,[],q.lb2 pd F⟩
noncomputable def Pay.a8:Ch:=⟨q.s,⟨q.sa+1+1,q.sb+1+1,false,q.j+1,q.nt,false,false,false⟩,qju (true != pd) q.n q.x,qju (!(true != pd)) q.n q.y,[],q.ha2,[],q.la2 pd⟩
end
section
variable {q:Pay}{pd:Bool}{F:MsgV}{p:List Int}{r:Int}
theorem stI{ow:Bool}{st:Int}(h:st≠9):∀z∈[q.I ow st pd],z.state≠9:=by
 intro z f;rw[List.mem_singleton.1 f];exact h
theorem Pay.h0(k:PayOk q):HearC q.b0 q.add q.b1 []:=by
 have h:=zcm (s:=q.t) (t:=q.s) (sg:=q.sb) (hd:=q.sa) (aw:=false) (no:=q.no) (f1:=false) (rv:=q.rb) (x:=q.y) (y:=q.x+q.n) (nw:=[]) (la:=q.lb) k.D.symm k.n ⟨k.j.1,by have:=k.j.2;omega⟩ (by have:=k.x;omega) k.e k.h k.shb (by have:=k.sa;omega) (by have:=k.lb;omega);rw[show q.x+q.n-q.n=q.x by omega] at h;exact h
theorem Pay.g1(k:PayOk q):SignC q.a0 q.a1 [q.s1] :=
 qyu (L1:=[q.I true 1 false]) k.D ⟨k.sa.1,by have:=k.sa.2;omega⟩ rfl rfl (stI (by decide)) (by show (1:Nat)≤_;decide) (by show (1:Nat)≤_;decide)
theorem Pay.h1(k:PayOk q):HearC q.b1 q.s1 q.b2 [q.r1] :=
 zbg (xs:=[q.I true 1 false]) (L2:=[q.I false 2 false]) k.D.symm ⟨k.sa.1,by have:=k.sa.2;omega⟩ k.shb (by show (1:Nat)≤_;decide) (by show (1:Nat)≤_;decide) (by have:=k.lb;omega) rfl rfl (stI (st:=1) (by decide)) rfl (stI (by decide))
theorem Pay.h2(k:PayOk q):HearC q.a1 q.r1 q.a2 [] :=
 zbf (L1:=[q.I true 2 false]) k.D ⟨k.sa.1,by have:=k.sa.2;omega⟩ k.sha (by have:=k.sb.2;omega) (by show (1:Nat)≤_;decide) (by show (1:Nat)≤_;decide) (by show (2:Nat)≤_;decide) rfl (stI (by decide))
theorem Pay.g2(k:PayOk q):SignC q.b2 q.b3 [q.s2] :=
 qyu (L1:=[q.I false 3 false]) k.D.symm ⟨k.sb.1,by have:=k.sb.2;omega⟩ rfl rfl (stI (by decide)) (by show (0:Nat)≤_;decide) (by show (1:Nat)≤_;decide)
theorem PayOk.ta(k:PayOk q):qez q.t.seed q.ha1:=q5c k.D k.sha
theorem PayOk.tb(k:PayOk q):qez q.s.seed q.hb1:=q5c k.D.symm k.shb
theorem PayOk.tb2(k:PayOk q):qez q.s.seed q.hb2:=q5c k.D.symm k.tb
theorem Pay.h3(k:PayOk q):HearC q.a2 q.s2 q.a3 [q.r2] :=
 zbg (xs:=[q.I false 3 false]) (L2:=[q.I true 4 false]) k.D ⟨k.sb.1,by have:=k.sb.2;omega⟩ k.ta (by show (1:Nat)≤_;decide) (by show (1:Nat)≤_;decide) (by show (2:Nat)≤_;decide) rfl rfl (stI (st:=3) (by decide)) rfl (stI (by decide))
theorem Pay.h4(k:PayOk q):HearC q.b3 q.r2 q.b4 [] :=
 zbf (L1:=[q.I false 4 false]) k.D.symm ⟨k.sb.1,by have:=k.sb.2;omega⟩ k.shb (by have:=k.sa.2;omega) (by show (1:Nat)≤_;decide) (by show (1:Nat)≤_;decide) (by show (1:Nat)≤_;decide) rfl (stI (by decide))
theorem Pay.g3(k:PayOk q):SignC (q.b5 pd F) (q.b6 pd F) [q.s3 pd] :=
 qyu (L1:=[q.I false 6 pd]) k.D.symm ⟨by have:=k.sb.1;omega,by have:=k.sb.2;omega⟩ rfl rfl (stI (by decide)) (by show (1:Nat)≤_;decide) (by show (1:Nat)≤_;decide)
theorem Pay.h6(k:PayOk q):HearC (q.a5 pd) (q.s3 pd) (q.a6 pd) [q.r3] :=
 zbg (xs:=[q.I false 6 pd]) (L2:=[q.I true 7 pd]) k.D ⟨by have:=k.sb.1;omega,by have:=k.sb.2;omega⟩ k.ta (by show (1:Nat)≤_;decide) (by show (1:Nat)≤_;decide) (by show (2:Nat)≤_;decide) rfl rfl (stI (st:=6) (by decide)) rfl (stI (by decide))
theorem Pay.h7(k:PayOk q):HearC (q.b6 pd F) q.r3 (q.b7 pd F) [] :=
 zbf (L1:=[q.I false 7 pd]) k.D.symm ⟨by have:=k.sb.1;omega,by have:=k.sb.2;omega⟩ k.tb (by have:=k.sa.2;omega) (by show (1:Nat)≤_;decide) (by show (1:Nat)≤_;decide) (by show (2:Nat)≤_;decide) rfl (stI (by decide))
theorem Pay.g4(k:PayOk q):SignC (q.a6 pd) (q.a7 pd) [q.s4 pd] :=
 qyu (L1:=[q.I true 8 pd]) k.D ⟨by have:=k.sa.1;omega,by have:=k.sa.2;omega⟩ rfl rfl (stI (by decide)) (by show (0:Nat)≤_;decide) (by show (1:Nat)≤_;decide)
theorem Pay.h8(k:PayOk q):HearC (q.b7 pd F) (q.s4 pd) (q.b8 pd F) [q.r4] :=
 q0p (xs:=[q.I true 8 pd]) (j:=q.j) (n:=q.n) (h:=q.h) (e:=q.e) (ow:=false) (pd:=pd) k.D.symm ⟨by have:=k.sa.1;omega,by have:=k.sa.2;omega⟩ k.tb2 (by show (1:Nat)≤_;decide) (by show (2:Nat)≤_;decide) rfl rfl (stI (st:=8) (by decide)) rfl
theorem Pay.h9(k:PayOk q):HearC (q.a7 pd) q.r4 (q.a8 pd) [] :=
 q0o (j:=q.j) (n:=q.n) (h:=q.h) (e:=q.e) (ow:=true) (pd:=pd) k.D ⟨by have:=k.sa.1;omega,by have:=k.sa.2;omega⟩ k.ta (by have:=k.sb.2;omega) (by show (1:Nat)≤_;decide) (by show (1:Nat)≤_;decide) rfl
end
end Go.Proofs.YtfmkdoachjgjbaaGreatDoor
