/-
  Law 18: begin, both links.
-/
import Derived.Test.YtfmkdoachjgjbaaGreatDoorLp3
set_option maxRecDepth 100000
set_option maxHeartbeats 2000000
set_option linter.unusedVariables false
set_option linter.unusedSimpArgs false
namespace Go.Proofs.YtfmkdoachjgjbaaGreatDoor
open Go.RowKit
def Pw.new(ours cap:Int):Pw:=⟨qbn (fun _=> .new (Ch.new (qcm ours cap))) 1 (.new (Ch.new (qcd ours cap))),fun _=>[],fun _=>⟨#[]⟩,false⟩
def qrl(f:World)(p:Nat)(r v:SetupV)(i:Nat)(w:World):Prop :=
 Upd (· = p) f w∧∃x y,w.heap[p]? = some (.cells (qq0 x y).toArray 32 (0,0))∧(1≤i→∃g S,x = .pointer (some ⟨g,0,none⟩)∧LkS w g S (.new (Ch.new r))∧(∀k,S k→f.heap.size≤k)) ∧
  (2≤i→∃g S q m,x = .pointer (some ⟨g,0,none⟩)∧y = .pointer (some ⟨q,0,none⟩)∧LkS w g S (.new (Ch.new r))∧LkS w q m (.new (Ch.new v))∧(∀k,S k→f.heap.size≤k)∧(∀k,m k→f.heap.size≤k)∧∀k,S k→¬m k)
attribute [local go_sem ↓ high] qft qfm qb5
attribute [local go_sem] qx qnz qne qeg
theorem q4a(ours cap:Int)(ho:0≤ours∧ours<18446744073709551616)(hc:0≤cap∧cap<18446744073709551616)(hm:1≤cap∧cap≤1125899906842624∧ours≤cap)(w:World) :
  Calls Tryz.prog 9 #[.int .u64 ours,.int .u64 cap] w fun e w'=>∃p,e = .returned (.pointer (some ⟨p,0,none⟩))∧PwD (fun _ _=>False) w w' p (Pw.new ours cap):=by
 have L:=qvf ho hc
 have M:=qvg (ours:=ours) hc
 have a7:=q2w hm
 have a8:=q2x ho.1 hm
 go_enter Tryz.func9,Tryz.ntmps9
 go_wp2_with fail
 obtain⟨wp,S⟩:∃wp:World,wp=w.alloc (.cells #[.pointer none,.pointer none,.string ⟨#[]⟩,.string ⟨#[]⟩,.bool false] 32):=⟨_,rfl⟩
 have P:wp.heap[w.heap.size]? = some (.cells (qq0 (.pointer none) (.pointer none)).toArray 32 (0,0)):=by rw[S];exact qj _ _
 have np:qq w wp:=by rw[S];exact(Upd.refl _ _).alloc _
 rw[←S]
 clear S
 obtain⟨p,b9⟩:∃p,p=w.heap.size:=⟨_,rfl⟩
 rw[←b9] at P ⊢
 have c3:w.heap.size≤p:=by omega
 clear b9
 refine(qmz ours cap wp).mono ?_
 rintro e w1 ⟨rfl,n1⟩
 obtain⟨b6,hF⟩:=qki (qj w1 (.cells qhp.toArray 97)) (s:=qcm ours cap) (t:=qcd ours cap) rfl rfl
 have n2:qq wp ((w1.alloc (.cells qhp.toArray 97)).setCells w1.heap.size 0 (qe0 (qcm ours cap) (qcd ours cap))):=(n1.alloc _).then (zc _) (fun i hi e=>by have:=n1.size;omega)
 have c2:p<w1.heap.size:=Nat.lt_of_lt_of_le (zr P) n1.size
 obtain⟨X,b4⟩:∃X,X=qcm ours cap:=⟨_,rfl⟩
 obtain⟨Y,b5⟩:∃Y,Y=qcd ours cap:=⟨_,rfl⟩
 rw[←b4] at b6 hF n2 L a7 ⊢
 rw[←b5] at b6 hF n2 M a8 ⊢
 have b7:=qb (And.intro b4 b5)
 clear n1 b4 b5
 go_upto_region 3 with fail
 generalize (w1.alloc (.cells qhp.toArray 97)).setCells w1.heap.size 0 (qe0 X Y)=w2 at hF n2 ⊢
 generalize w1.heap.size=T at hF c2 ⊢
 clear b6 w1
 have b3:=n2.old P (fun h=>h)
 have N2:=qb (np.trans n2)
 have HF:=qb hF
 have c5:=(np.trans n2).size
 have H0:Hid (qrl w2 p X Y 0 w2):=qb ⟨Upd.refl _ _,_,_,b3,(fun h=>by omega),fun h=>by omega⟩
 have V:=qb (And.intro L (And.intro M (And.intro a7 a8)))
 have c4:p<w2.heap.size:=zr b3
 clear n2 np P hF b3 L M a7 a8
 go_wp2_with fail
 go_loopw [7] (fun iv wr=>∃i:Nat,iv = .int .i64 (i:Int)∧i≤2∧Hid (qrl w2 p X Y i wr)) (fun iv _=>2-(intOf iv).toNat)
 case atStart=>exact⟨0,rfl,by omega,H0⟩
 case round =>
  obtain⟨i,rfl,hi,hrel⟩:=hrel;obtain⟨E,rfl⟩:∃E:World,E=wr:=⟨_,rfl⟩;obtain⟨v,x,y,F,N,O⟩:=qa hrel;have K:=(qa HF).upd v (fun e=>by omega);have c6:=v.size;rcases (by omega:i=0∨i=1∨i=2) with rfl | rfl | rfl
  ·rw[show ((0:Nat):Int)=0 from rfl];have r0:=K.row0;have r:=qo0 X (qa V).1 E.drew;have Z:=qb (And.intro v F);clear v F N O K hrel;go_wp2_with (with_reducible first|(first|refine' tw1 (qh ?_) ?_|refine' tw2 (qh ?_) ?_);rotate_left|refine' tw3 (qh ?_)|rfl|apply tn|refine' tw4 ?_);refine r.mono ?_;rintro e C (⟨-,g,l,rfl,hN,I⟩ | ⟨a6,-⟩)
   case inr=>exact absurd (qa V).2.2.1 a6
   obtain⟨v,F⟩:=qa Z;have I:qq E C:=I.ofDrew;have q:=I.old F (fun h=>h);have f0:=qv q 0;have c0:C.cell? ⟨p,0,none⟩=some x:=qg q 0;have m:(C.setCell ⟨p,0,none⟩ (.pointer (some ⟨g,0,none⟩))).heap[p]? = some (.cells (qq0 (.pointer (some ⟨g,0,none⟩)) y).toArray 32 (0,0)):=qad q 0 (.pointer (some ⟨g,0,none⟩));have U:Upd (· = p) C (C.setCell ⟨p,0,none⟩ (.pointer (some ⟨g,0,none⟩))):=(Upd.refl _ _).set1 _ _;have hw:=hN.whole (qa V).1 (qa V).2.2.1;have H:=hN.ge;have H:E.heap.size≤g∧E.heap.size≤l.sp∧E.heap.size≤l.en∧E.heap.size≤l.lo:=H;have z:∀k,(k=g∨k=l.sp∨k=l.en∨k=l.lo)→w2.heap.size≤k:=by
    rintro k (e | e | e | e)<;>omega
   have R:=hw.upd U (fun k J e=>by have:=z k J;omega);have H4:Hid (qrl w2 p X Y 1 (C.setCell ⟨p,0,none⟩ (.pointer (some ⟨g,0,none⟩)))):=qb ⟨(v.trans (I.mono (fun _ _ h=>h.elim))).trans U,_,_,m,(fun _=>⟨g,_,rfl,R,z⟩),fun h=>by omega⟩;have d0:(C.setCell ⟨p,0,none⟩ (.pointer (some ⟨g,0,none⟩))).cell? ⟨p,0,none⟩=some (.pointer (some ⟨g,0,none⟩)):=qg m 0;clear Z v F I q m U hw H z R hN r0 r;go_wp2_with (with_reducible first|(first|refine' tw1 (qh ?_) ?_|refine' tw2 (qh ?_) ?_);rotate_left|refine' tw3 (qh ?_)|rfl|apply tn|refine' tw4 ?_);go_roundw
   case rel=>exact⟨1,rfl,by omega,H4⟩
   case measure=>simp[intOf]
  ·rw[show ((1:Nat):Int)=1 from rfl];have r1:=K.row1;have r:=qo0 Y (qa V).2.1 E.drew;have Z:=qb (And.intro v (And.intro F N));clear v F N O K hrel;go_wp2_with (with_reducible first|(first|refine' tw1 (qh ?_) ?_|refine' tw2 (qh ?_) ?_);rotate_left|refine' tw3 (qh ?_)|rfl|apply tn|refine' tw4 ?_);refine r.mono ?_;rintro e C (⟨-,g,l,rfl,hN,I⟩ | ⟨a6,-⟩)
   case inr=>exact absurd (qa V).2.2.2 a6
   obtain⟨v,F,N⟩:=qa Z;have I:qq E C:=I.ofDrew;have q:=I.old F (fun h=>h);have f0:=qv q 1;have c0:C.cell? ⟨p,1,none⟩=some y:=qg q 1;have m:(C.setCell ⟨p,1,none⟩ (.pointer (some ⟨g,0,none⟩))).heap[p]? = some (.cells (qq0 x (.pointer (some ⟨g,0,none⟩))).toArray 32 (0,0)):=qad q 1 (.pointer (some ⟨g,0,none⟩));have U:Upd (· = p) C (C.setCell ⟨p,1,none⟩ (.pointer (some ⟨g,0,none⟩))):=(Upd.refl _ _).set1 _ _;have hw:=hN.whole (qa V).2.1 (qa V).2.2.2;have H:=hN.ge;have H:E.heap.size≤g∧E.heap.size≤l.sp∧E.heap.size≤l.en∧E.heap.size≤l.lo:=H;have z:∀k,(k=g∨k=l.sp∨k=l.en∨k=l.lo)→E.heap.size≤k:=by
    rintro k (e | e | e | e)<;>omega
   have R:=hw.upd U (fun k J e=>by have:=z k J;omega);have d0:(C.setCell ⟨p,1,none⟩ (.pointer (some ⟨g,0,none⟩))).cell? ⟨p,1,none⟩=some (.pointer (some ⟨g,0,none⟩)):=qg m 1;have H4:Hid (qrl w2 p X Y 2 (C.setCell ⟨p,1,none⟩ (.pointer (some ⟨g,0,none⟩)))):=qb (by
    obtain⟨g0,S0,e0,h0,f⟩:=N (by omega);have b8:=h0.lt;exact⟨(v.trans (I.mono (fun _ _ h=>h.elim))).trans U,_,_,m,(fun _=>⟨g0,S0,e0,(h0.new I).upd U (fun k J e=>by have:=f k J;omega),f⟩),fun _=>⟨g0,S0,g,_,e0,rfl,(h0.new I).upd U (fun k J e=>by have:=f k J;omega),R,f,fun k J=>by have:=z k J;omega,fun k h1 h2=>by have:=z k h2;have:=b8 k h1;omega⟩⟩)
   clear Z v F I q m U hN r1 r N;go_wp2_with (with_reducible first|(first|refine' tw1 (qh ?_) ?_|refine' tw2 (qh ?_) ?_);rotate_left|refine' tw3 (qh ?_)|rfl|apply tn|refine' tw4 ?_);go_roundw
   case rel=>exact⟨2,rfl,by omega,H4⟩
   case measure=>simp[intOf]
  ·rw[show ((2:Nat):Int)=2 from rfl];have Z:=qb (And.intro v (And.intro F O));clear v F N O K hrel;go_wp2_with (with_reducible first|(first|refine' tw1 (qh ?_) ?_|refine' tw2 (qh ?_) ?_);rotate_left|refine' tw3 (qh ?_)|rfl|apply tn|refine' tw4 ?_);go_ret;obtain⟨v,F,N⟩:=qa Z;obtain⟨g0,S0,g1,S1,rfl,rfl,h0,h1,f,W,c1⟩:=N (by omega);refine⟨p,rfl,qbn (fun _=>g0) 1 g1,qbn (fun _=>S0) 1 S1,⟨F,fun k J=> ?_,c1,fun k J i hi=> ?_,c3,fun k J e=> ?_,(qa N2).then v (fun i hi e=>by omega),fun B o e=>e.elim⟩⟩
   ·rcases (by omega:k=0∨k=1) with rfl | rfl
    ·have:=h0.toV rfl;rw[(qa b7).1] at this;exact this
    ·have:=h1.toV rfl;rw[(qa b7).2] at this;exact this
   ·rcases (by omega:k=0∨k=1) with rfl | rfl
    ·have:=f i hi;omega
    ·have:=W i hi;omega
   ·rcases (by omega:k=0∨k=1) with rfl | rfl
    ·have:=f _ e;omega
    ·have:=W _ e;omega
end Go.Proofs.YtfmkdoachjgjbaaGreatDoor
