/-
  Law 18: begin, both links.
-/
import Derived.Test.YtfmkdoachjgjbaaGreatDoorLp3
set_option linter.unusedVariables false
set_option linter.unusedSimpArgs false
namespace Go.Proofs.YtfmkdoachjgjbaaGreatDoor
open Go.RowKit
def Pw.new(ours cap:Int):Pw:=⟨qbk (fun _=> .new (Ch.new (qci ours cap))) 1 (.new (Ch.new (qb8 ours cap))),fun _=>[],fun _=>⟨#[]⟩,false⟩
def qre(f:World)(p:Nat)(v z:SetupV)(i:Nat)(w:World):Prop :=
 Upd (· = p) f w∧∃x y,w.heap[p]? = some (.cells (qqt x y).toArray 32 (0,0))∧(1≤i→∃g S,x = .pointer (some ⟨g,0,none⟩)∧LkS w g S (.new (Ch.new v))∧(∀k,S k→f.heap.size≤k)) ∧
  (2≤i→∃g S q m,x = .pointer (some ⟨g,0,none⟩)∧y = .pointer (some ⟨q,0,none⟩)∧LkS w g S (.new (Ch.new v))∧LkS w q m (.new (Ch.new z))∧(∀k,S k→f.heap.size≤k)∧(∀k,m k→f.heap.size≤k)∧∀k,S k→¬m k)
attribute [local go_sem ↓ high] qfj qfc qb4
attribute [local go_sem] qw qnt qnb qd8
set_option maxRecDepth 100000 in
set_option maxHeartbeats 2000000 in
theorem q3t(ours cap:Int)(ho:0≤ours∧ours<18446744073709551616)(hc:0≤cap∧cap<18446744073709551616)(hm:1≤cap∧cap≤1125899906842624∧ours≤cap)(w:World) :
  Calls Tryz.prog 9 #[.int .u64 ours,.int .u64 cap] w fun e w'=>∃p,e = .returned (.pointer (some ⟨p,0,none⟩))∧PwD (fun _ _=>False) w w' p (Pw.new ours cap):=by
 have M:=qu5 ho hc
 have N:=qu6 (ours:=ours) hc
 have a7:=q2m hm
 have a8:=q2n ho.1 hm
 go_enter Tryz.func9,Tryz.ntmps9
 go_wp2_with fail
 obtain⟨wp,U⟩:∃wp:World,wp=w.alloc (.cells #[.pointer none,.pointer none,.string ⟨#[]⟩,.string ⟨#[]⟩,.bool false] 32):=⟨_,rfl⟩
 have R:wp.heap[w.heap.size]? = some (.cells (qqt (.pointer none) (.pointer none)).toArray 32 (0,0)):=by rw[U];exact qj _ _
 have np:qq w wp:=by rw[U];exact(Upd.refl _ _).alloc _
 rw[←U]
 clear U
 obtain⟨p,b9⟩:∃p,p=w.heap.size:=⟨_,rfl⟩
 rw[←b9] at R ⊢
 have c3:w.heap.size≤p:=by omega
 clear b9
 refine(qmw ours cap wp).mono ?_
 rintro e w1 ⟨rfl,n1⟩
 obtain⟨b6,hF⟩:=qkg (qj w1 (.cells qhd.toArray 97)) (s:=qci ours cap) (t:=qb8 ours cap) rfl rfl
 have n2:qq wp ((w1.alloc (.cells qhd.toArray 97)).setCells w1.heap.size 0 (qer (qci ours cap) (qb8 ours cap))):=(n1.alloc _).then (zj _) (fun i hi e=>by have:=n1.size;omega)
 have c2:p<w1.heap.size:=Nat.lt_of_lt_of_le (zr R) n1.size
 obtain⟨Y,b4⟩:∃Y,Y=qci ours cap:=⟨_,rfl⟩
 obtain⟨Z,b5⟩:∃Z,Z=qb8 ours cap:=⟨_,rfl⟩
 rw[←b4] at b6 hF n2 M a7 ⊢
 rw[←b5] at b6 hF n2 N a8 ⊢
 have b7:=qb (And.intro b4 b5)
 clear n1 b4 b5
 go_upto_region 3 with fail
 generalize (w1.alloc (.cells qhd.toArray 97)).setCells w1.heap.size 0 (qer Y Z)=w2 at hF n2 ⊢
 generalize w1.heap.size=T at hF c2 ⊢
 clear b6 w1
 have b3:=n2.old R (fun h=>h)
 have N2:=qb (np.trans n2)
 have HF:=qb hF
 have c5:=(np.trans n2).size
 have H0:Hid (qre w2 p Y Z 0 w2):=qb ⟨Upd.refl _ _,_,_,b3,(fun h=>by omega),fun h=>by omega⟩
 have W:=qb (And.intro M (And.intro N (And.intro a7 a8)))
 have c4:p<w2.heap.size:=zr b3
 clear n2 np R hF b3 M N a7 a8
 go_wp2_with fail
 go_loopw [7] (fun iv wr=>∃i:Nat,iv = .int .i64 (i:Int)∧i≤2∧Hid (qre w2 p Y Z i wr)) (fun iv _=>2-(intOf iv).toNat)
 case atStart=>exact⟨0,rfl,by omega,H0⟩
 case round =>
  obtain⟨i,rfl,hi,hrel⟩:=hrel;obtain⟨F,rfl⟩:∃F:World,F=wr:=⟨_,rfl⟩;obtain⟨z,x,y,H,O,P⟩:=qa hrel;have L:=(qa HF).upd z (fun e=>by omega);have c6:=z.size;rcases (by omega:i=0∨i=1∨i=2) with rfl | rfl | rfl
  ·rw[show ((0:Nat):Int)=0 from rfl];have r0:=L.row0;have v:=qos Y (qa W).1 F.drew;have HQ:=qb (And.intro z H);clear z H O P L hrel;go_wp2_with (with_reducible first|(first|refine' tw1 (qh ?_) ?_|refine' tw2 (qh ?_) ?_);rotate_left|refine' tw3 (qh ?_)|rfl|apply tn|refine' tw4 ?_);refine v.mono ?_;rintro e E (⟨-,g,l,rfl,hN,J⟩ | ⟨a6,-⟩)
   case inr=>exact absurd (qa W).2.2.1 a6
   obtain⟨z,H⟩:=qa HQ;have J:qq F E:=J.ofDrew;have q:=J.old H (fun h=>h);have f0:=qu q 0;have c0:E.cell? ⟨p,0,none⟩=some x:=qg q 0;have m:(E.setCell ⟨p,0,none⟩ (.pointer (some ⟨g,0,none⟩))).heap[p]? = some (.cells (qqt (.pointer (some ⟨g,0,none⟩)) y).toArray 32 (0,0)):=zv q 0 (.pointer (some ⟨g,0,none⟩));have V:Upd (· = p) E (E.setCell ⟨p,0,none⟩ (.pointer (some ⟨g,0,none⟩))):=(Upd.refl _ _).set1 _ _;have hw:=hN.whole (qa W).1 (qa W).2.2.1;have I:=hN.ge;have I:F.heap.size≤g∧F.heap.size≤l.sp∧F.heap.size≤l.en∧F.heap.size≤l.lo:=I;have C:∀k,(k=g∨k=l.sp∨k=l.en∨k=l.lo)→w2.heap.size≤k:=by
    rintro k (e | e | e | e)<;>omega
   have S:=hw.upd V (fun k K e=>by have:=C k K;omega);have H4:Hid (qre w2 p Y Z 1 (E.setCell ⟨p,0,none⟩ (.pointer (some ⟨g,0,none⟩)))):=qb ⟨(z.trans (J.mono (fun _ _ h=>h.elim))).trans V,_,_,m,(fun _=>⟨g,_,rfl,S,C⟩),fun h=>by omega⟩;have d0:(E.setCell ⟨p,0,none⟩ (.pointer (some ⟨g,0,none⟩))).cell? ⟨p,0,none⟩=some (.pointer (some ⟨g,0,none⟩)):=qg m 0;clear HQ z H J q m V hw I C S hN r0 v;go_wp2_with (with_reducible first|(first|refine' tw1 (qh ?_) ?_|refine' tw2 (qh ?_) ?_);rotate_left|refine' tw3 (qh ?_)|rfl|apply tn|refine' tw4 ?_);go_roundw
   case rel=>exact⟨1,rfl,by omega,H4⟩
   case measure=>simp[intOf]
  ·rw[show ((1:Nat):Int)=1 from rfl];have r1:=L.row1;have v:=qos Z (qa W).2.1 F.drew;have HQ:=qb (And.intro z (And.intro H O));clear z H O P L hrel;go_wp2_with (with_reducible first|(first|refine' tw1 (qh ?_) ?_|refine' tw2 (qh ?_) ?_);rotate_left|refine' tw3 (qh ?_)|rfl|apply tn|refine' tw4 ?_);refine v.mono ?_;rintro e E (⟨-,g,l,rfl,hN,J⟩ | ⟨a6,-⟩)
   case inr=>exact absurd (qa W).2.2.2 a6
   obtain⟨z,H,O⟩:=qa HQ;have J:qq F E:=J.ofDrew;have q:=J.old H (fun h=>h);have f0:=qu q 1;have c0:E.cell? ⟨p,1,none⟩=some y:=qg q 1;have m:(E.setCell ⟨p,1,none⟩ (.pointer (some ⟨g,0,none⟩))).heap[p]? = some (.cells (qqt x (.pointer (some ⟨g,0,none⟩))).toArray 32 (0,0)):=zv q 1 (.pointer (some ⟨g,0,none⟩));have V:Upd (· = p) E (E.setCell ⟨p,1,none⟩ (.pointer (some ⟨g,0,none⟩))):=(Upd.refl _ _).set1 _ _;have hw:=hN.whole (qa W).2.1 (qa W).2.2.2;have I:=hN.ge;have I:F.heap.size≤g∧F.heap.size≤l.sp∧F.heap.size≤l.en∧F.heap.size≤l.lo:=I;have C:∀k,(k=g∨k=l.sp∨k=l.en∨k=l.lo)→F.heap.size≤k:=by
    rintro k (e | e | e | e)<;>omega
   have S:=hw.upd V (fun k K e=>by have:=C k K;omega);have d0:(E.setCell ⟨p,1,none⟩ (.pointer (some ⟨g,0,none⟩))).cell? ⟨p,1,none⟩=some (.pointer (some ⟨g,0,none⟩)):=qg m 1;have H4:Hid (qre w2 p Y Z 2 (E.setCell ⟨p,1,none⟩ (.pointer (some ⟨g,0,none⟩)))):=qb (by
    obtain⟨g0,S0,e0,h0,f⟩:=O (by omega);have b8:=h0.lt;exact⟨(z.trans (J.mono (fun _ _ h=>h.elim))).trans V,_,_,m,(fun _=>⟨g0,S0,e0,(h0.new J).upd V (fun k K e=>by have:=f k K;omega),f⟩),fun _=>⟨g0,S0,g,_,e0,rfl,(h0.new J).upd V (fun k K e=>by have:=f k K;omega),S,f,fun k K=>by have:=C k K;omega,fun k h1 h2=>by have:=C k h2;have:=b8 k h1;omega⟩⟩)
   clear HQ z H J q m V hN r1 v O;go_wp2_with (with_reducible first|(first|refine' tw1 (qh ?_) ?_|refine' tw2 (qh ?_) ?_);rotate_left|refine' tw3 (qh ?_)|rfl|apply tn|refine' tw4 ?_);go_roundw
   case rel=>exact⟨2,rfl,by omega,H4⟩
   case measure=>simp[intOf]
  ·rw[show ((2:Nat):Int)=2 from rfl];have HQ:=qb (And.intro z (And.intro H P));clear z H O P L hrel;go_wp2_with (with_reducible first|(first|refine' tw1 (qh ?_) ?_|refine' tw2 (qh ?_) ?_);rotate_left|refine' tw3 (qh ?_)|rfl|apply tn|refine' tw4 ?_);go_ret;obtain⟨z,H,O⟩:=qa HQ;obtain⟨g0,S0,g1,S1,rfl,rfl,h0,h1,f,X,c1⟩:=O (by omega);refine⟨p,rfl,qbk (fun _=>g0) 1 g1,qbk (fun _=>S0) 1 S1,⟨H,fun k K=> ?_,c1,fun k K i hi=> ?_,c3,fun k K e=> ?_,(qa N2).then z (fun i hi e=>by omega),fun B o e=>e.elim⟩⟩
   ·rcases (by omega:k=0∨k=1) with rfl | rfl
    ·have:=h0.toV rfl;rw[(qa b7).1] at this;exact this
    ·have:=h1.toV rfl;rw[(qa b7).2] at this;exact this
   ·rcases (by omega:k=0∨k=1) with rfl | rfl
    ·have:=f i hi;omega
    ·have:=X i hi;omega
   ·rcases (by omega:k=0∨k=1) with rfl | rfl
    ·have:=f _ e;omega
    ·have:=X _ e;omega
end Go.Proofs.YtfmkdoachjgjbaaGreatDoor
