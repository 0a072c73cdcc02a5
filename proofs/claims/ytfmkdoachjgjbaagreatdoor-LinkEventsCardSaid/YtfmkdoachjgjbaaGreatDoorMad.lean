/-
  Package digest: tail, Pad, Sum.
-/
import Derived.Test.YtfmkdoachjgjbaaGreatDoorMac
import Derived.Outline
import Derived.Test.YtfmkdoachjgjbaaGreatDoorMaa
import Derived.Lib.JoinLaws
import Derived.ArgAppend
import Derived.Laws.IdiomStrings
import Derived.Laws.Tables
import Derived.Laws.BitsAllLaws
import Derived.Laws.Bits64
import Derived.IntWalk
import Derived.Deep.CutRange
import Derived.BigRegion
import Derived.Deep.RegionLaw
set_option maxRecDepth 100000
set_option maxHeartbeats 1000000
set_option linter.unusedVariables false
set_option linter.unusedSimpArgs false
namespace Go.Proofs.YtfmkdoachjgjbaaGreatDoor
section
open Go.RowKit
def qdc(n:Nat):Nat:=(119-n%64)%64
theorem qla(n:Nat):qdc n<64:=Nat.mod_lt _ (by decide)
theorem q9o(n k:Nat)(h:k<qdc n):(n+(k+1)+8)%64≠0:=by unfold qdc at h;omega
theorem qzk(n:Nat):(n+(qdc n+1)+8)%64=0:=by unfold qdc;omega
def qi6(n i:Nat):Int:=(8*n:Int) / 2 ^ (56-8*i)%256
def qm2(n:Nat):List Int:=(128::List.replicate (qdc n) 0)++(List.range 8).map (qi6 n)
theorem ql7(n:Nat):(qm2 n).length=qdc n+9:=by simp[qm2]
theorem q7x(n:Nat)(w:World)(Z:n≤1073741824) :
  Calls Tryz.prog 213 #[.int .u64 n] w (qa7 (.string (strOfNums (qm2 n))) w):=by
 have hz:=qla n
 go_enter Tryz.func213,Tryz.ntmps213
 go_wp2_with fail
 have J:=qb1.made w w.heap.size [128] (Nat.le_refl _) (by decide)
 have R:Upd (fun k=>w.heap.size≤k) w (w.alloc (.cells #[.int .u8 128] 5)):=(Upd.refl _ _).alloc _
 simp only[List.map_cons,List.map_nil,List.length_cons,List.length_nil,Nat.zero_add] at J
 generalize w.alloc (.cells #[.int .u8 128] 5)=wa at J R ⊢
 have m:=qb J
 clear J
 go_loopw [3] (fun z wr=>∃(k:Nat) (a:Option Addr) (c:Nat),z = .slice a (k+1) c∧k≤qdc n∧Hid (qb1 wr w.heap.size z (128::List.replicate k 0))∧Upd (fun k=>w.heap.size≤k) w wr) (fun z _=>100-(match z with | .slice _ l _=>l | _=>0))
 case atStart=>exact⟨0,_,_,rfl,Nat.zero_le _,m,R⟩
 case round =>
  obtain⟨k,a,c,rfl,Y,m,E⟩:=hrel;by_cases H:k<qdc n
  ·have C:=q9o n k H;have T:((((n:Int)+((k:Int)+1))+8)%64 != 0)=true:=by rw[bne_iff_ne];omega
   have L:(k:Int)<64:=by omega
   have M:(n:Int)≤1073741824:=by omega
   have K:=E.size;clear C;go_wp2_with (at_builtin;refine qiu rfl (.tmp 14) (.tmp 15) rfl w.heap.size _ _ rfl 0 _ _ rfl (qa m) (by simp;omega) K ?_);intro W P f I;have O:=E.then I (fun q _ h=>((qa m).ge h).1);obtain⟨a5,F,rfl⟩:=f.shape;replace f:qb1 P w.heap.size (Value.slice a5 (128::(List.replicate k (0:Int)++[0])).length F) (128::(List.replicate k 0++[0])):=f;rw[←List.replicate_succ'] at f;simp only[List.length_append,List.length_cons,List.length_replicate,List.length_nil,Nat.zero_add] at f ⊢;have v:=qb f;clear f I m;go_wp2;go_roundw
   case rel=>exact⟨k+1,a5,F,rfl,by omega,v,O⟩
   case measure=>simp;omega
  ·obtain rfl:k=qdc n:=by omega
   have C:=qzk n;have T:((((n:Int)+((qdc n:Int)+1))+8)%64 != 0)=false:=by rw[bne_eq_false_iff_eq];omega
   have L:(qdc n:Int)<64:=by omega
   have M:(n:Int)≤1073741824:=by omega
   obtain⟨S,rfl⟩:∃S:World,S=wr:=⟨_,rfl⟩;clear C;go_wp2_with fail
   go_loopw [3,4,17] (fun z _ N wr=>∃(i:Nat) (a:Option Addr) (c:Nat),N = .int .i64 (i:Int)∧i≤8∧z = .slice a (qdc n+1+i) c∧Hid (qb1 wr w.heap.size z ((128::List.replicate (qdc n) 0)++(List.range i).map (qi6 n)))∧Upd (fun k=>w.heap.size≤k) w wr) (fun _ _ N _=>8-(intOf N).toNat)
   case atStart=>exact⟨0,_,_,rfl,by omega,rfl,by simpa using m,E⟩
   case round =>
    obtain⟨i,a,c,rfl,X,rfl,m,E⟩:=hrel;by_cases H:i<8
    ·have U:(i:Int)<8:=by omega
     have K:=E.size;go_wp2_with (at_builtin;refine qiu rfl (.tmp 20) (.tmp 28) rfl w.heap.size _ _ rfl _ _ _ rfl (qa m) (by simp;omega) K ?_);intro W P f I;have O:=E.then I (fun q _ h=>((qa m).ge h).1);obtain⟨a5,F,rfl⟩:=f.shape;have r:(128::(List.replicate (qdc n) (0:Int)++((List.range i).map (qi6 n)++[8*(n:Int) / 2 ^ (56-8*i)%256]))).length=qdc n+1+(i+1):=by simp;omega
     rw[r] at f ⊢;replace f:qb1 P w.heap.size (.slice a5 (qdc n+1+(i+1)) F) ((128::List.replicate (qdc n) 0)++(List.range (i+1)).map (qi6 n)):=by
      rw[List.range_succ,List.map_append,←List.append_assoc];have e:(128::List.replicate (qdc n) (0:Int))++(List.range i).map (qi6 n)++[qi6 n i]=128::(List.replicate (qdc n) 0++((List.range i).map (qi6 n)++[8*(n:Int) / 2 ^ (56-8*i)%256])):=by simp[qi6]
      exact e▸f
     clear r;have v:=qb f;clear f I m;go_wp2;go_roundw
     case rel=>exact⟨i+1,a5,F,by go_num,by omega,rfl,v,O⟩
     case measure=>simp[intOf];omega
    ·obtain rfl:i=8:=by omega
     rw[show ((8:Nat):Int)=8 from rfl];have V:=qjb (qa m);go_wp2;go_ret;exact⟨rfl,E.below' (Nat.le_refl _) (fun _ h=>h) |> fun h=>Upd.of_below h (Nat.le_refl _)⟩
theorem q9p(s:ByteArray)(w:World)(r:s.size≤1073741824) :
  Calls Tryz.prog 198 #[.string s] w (qa7 (.string (s++strOfNums (qm2 s.size))) w):=by
 have q:(s.size:Int)≤1073741824:=by omega
 have v:=qla s.size
 have f:(strOfNums (qm2 s.size)).size=qdc s.size+9:=by rw[strOfNums_size,ql7]
 generalize qdc s.size=z at v f
 go_enter Tryz.func198,Tryz.ntmps198
 go_wp2_with fail
 refine(q7x s.size w r).mono ?_
 rintro e w1 ⟨rfl,C⟩
 generalize i:strOfNums (qm2 s.size)=t at f ⊢
 have m:=qb i
 clear i
 go_wp2
 go_ret
 exact⟨by rw[qa m];rfl,C⟩
theorem qp0{w:World}{b n:Nat}{A:Array Value}(z:0<n)(v:A.size=n)(h:∀j,j<n→w.cell? ⟨b,j,none⟩=A[j]?):zf w b 0 n=some A:=by
 have f:=h (n-1) (by omega);rw[Array.getElem?_eq_getElem (by omega)] at f;unfold zf;unfold World.cell? at h f;cases m:w.heap[b]? with
 | none=>rw[m] at f;cases f
 | some ob =>
  simp only[m] at h f;cases ob with
  | cells C T r =>
   simp only at h f ⊢;have E:=(Array.getElem?_eq_some_iff.1 f).1;rw[if_pos (by omega)];congr 1;refine Array.ext_getElem? fun i=> ?_
   rw[Array.getElem?_extract];by_cases q:i<n
   ·rw[if_pos (by omega),Nat.zero_add];exact h i q
   ·rw[if_neg (by omega),Array.getElem?_eq_none (by omega)]
  | _=>cases f
theorem Tabs.row{w:World}(h:Tabs w):zf w 1 0 8=some (qh3.map (Value.int .u32)).toArray:=by
 refine qp0 (by decide) rfl fun j f=> ?_
 rw[h.start j f]
 match j,f with
 | 0,_=>rfl
 | 1,_=>rfl
 | 2,_=>rfl
 | 3,_=>rfl
 | 4,_=>rfl
 | 5,_=>rfl
 | 6,_=>rfl
 | 7,_=>rfl
theorem qkx:qep qh3:=by unfold qep qh3;decide
def qhg(s:ByteArray):ByteArray:=s++strOfNums (qm2 s.size)
def qen(s:ByteArray):List Int:=qf2 (qin ((qhg s).size / 64) qh3 (qhg s)) 32
theorem qb9(s:ByteArray):(qen s).length=32:=qgy _ _
def zam(x:Value):Sem Value:=Instr.loadAt 35 x
theorem qi5(x:Value):Instr.loadAt 35 x=zam x:=rfl
theorem qxm(b o:Nat)(w:World):(zam (.pointer (some ⟨b,o,none⟩))).run Tryz.prog w=match zf w b o 32 with | some A=> .ok (.agg A) w | none=>qdn Tryz.prog 35 w b o :=
 qah 35 32 _ Tryz.underlying35 rfl Tryz.infoHash b o w
def zax(x v:Value):Sem Unit:=Instr.storeAt 35 x v
theorem qjd(x v:Value):Instr.storeAt 35 x v=zax x v:=rfl
theorem qyi(b o:Nat)(A:Array Value)(w:World):(zax (.pointer (some ⟨b,o,none⟩)) (.agg A)).run Tryz.prog w=if stOk w b o 32 A=true then .ok () (w.setCells b o A.toList) else qel Tryz.prog 35 w b o A :=
 qaw 35 32 Tryz.infoHash b o A w
attribute [local go_sem ↓ high] qoy qpi qi5 qjd
attribute [local go_sem] zau za5 qxm qyi
def zcf(f:World)(A:Nat)(r:List Int):Nat→World→Prop
 | 0,w=>qq f w
 | _,w=>Upd (fun k=>k=A) f w∧qbg .u8 w A r
theorem qgq(s:ByteArray)(w:World)(hs:s.size≤1000000000)(hT:Tabs w) :
  Calls Tryz.prog 164 #[.string s] w fun e w'=>e = .returned (.agg ((qen s).map (Value.int .u8)).toArray)∧qq w w':=by
 have hl:(qhg s).size≤1073741824:=by
  unfold qhg;rw[ByteArray.size_append,strOfNums_size,ql7];have:=qla s.size;omega
 have O:=fun W=>q9p s W (by omega)
 have N:=fun W h1=>qwd qh3 (qhg s) W rfl qkx hl h1
 have K:=fun W=>qz9 (qin ((qhg s).size / 64) qh3 (qhg s)) W (qy2 _ _ _ ⟨rfl,qkx⟩).1 (qy2 _ _ _ ⟨rfl,qkx⟩).2
 have i:=qb9 s
 change ∀W,Calls _ _ _ _ (qa7 (.string (qhg s)) W) at O
 change ∀W,Calls _ _ _ _ (fun e w'=>e = .returned (.agg ((qen s).map (Value.int .u8)).toArray)∧qq W w') at K
 have HF:=qb (rfl:qen s=qen s)
 go_enter Tryz.func164,Tryz.ntmps164
 go_upto_region 1 with fail
 obtain⟨T0,U⟩:∃T,(w.alloc (.cells #[.int .u8 0,.int .u8 0,.int .u8 0,.int .u8 0,.int .u8 0,.int .u8 0,.int .u8 0,.int .u8 0,.int .u8 0,.int .u8 0,.int .u8 0,.int .u8 0,.int .u8 0,.int .u8 0,.int .u8 0,.int .u8 0,.int .u8 0,.int .u8 0,.int .u8 0,.int .u8 0,.int .u8 0,.int .u8 0,.int .u8 0,.int .u8 0,.int .u8 0,.int .u8 0,.int .u8 0,.int .u8 0,.int .u8 0,.int .u8 0,.int .u8 0,.int .u8 0] 35)).heap[w.heap.size]? = some (.cells ((List.replicate 32 0).map (Value.int .u8)).toArray T (0,0)):=⟨_,qj _ _⟩
 have n0:qq w (w.alloc (.cells #[.int .u8 0,.int .u8 0,.int .u8 0,.int .u8 0,.int .u8 0,.int .u8 0,.int .u8 0,.int .u8 0,.int .u8 0,.int .u8 0,.int .u8 0,.int .u8 0,.int .u8 0,.int .u8 0,.int .u8 0,.int .u8 0,.int .u8 0,.int .u8 0,.int .u8 0,.int .u8 0,.int .u8 0,.int .u8 0,.int .u8 0,.int .u8 0,.int .u8 0,.int .u8 0,.int .u8 0,.int .u8 0,.int .u8 0,.int .u8 0,.int .u8 0,.int .u8 0] 35)):=(Upd.refl _ _).alloc _
 generalize w.alloc (.cells #[.int .u8 0,.int .u8 0,.int .u8 0,.int .u8 0,.int .u8 0,.int .u8 0,.int .u8 0,.int .u8 0,.int .u8 0,.int .u8 0,.int .u8 0,.int .u8 0,.int .u8 0,.int .u8 0,.int .u8 0,.int .u8 0,.int .u8 0,.int .u8 0,.int .u8 0,.int .u8 0,.int .u8 0,.int .u8 0,.int .u8 0,.int .u8 0,.int .u8 0,.int .u8 0,.int .u8 0,.int .u8 0,.int .u8 0,.int .u8 0,.int .u8 0,.int .u8 0] 35)=z at U n0 ⊢
 have C:=i
 have H0:qbg .u8 z w.heap.size (List.replicate 32 0):=⟨T0,U⟩
 have HT:=qb (hT.new n0)
 generalize V:qin ((qhg s).size / 64) qh3 (qhg s)=S at N K
 generalize I:qen s=v at K i C
 generalize Z:qhg s=ps at O N hl
 have HP:=qb O
 have HB:=qb N
 have HY:=qb K
 have R:=qb I
 have M:=qb i
 have J:=H0.stOk (r:=v) (n:=32) (by simpa using C) C
 clear O N K V I Z C U hT i HF
 refine qlq (by kernel_rfl) [[],[],[(1,4)],[(0,3),(2,5)],[(3,6)],[(4,7)]] 8 rfl (by kernel_rfl) [(0,3),(1,4),(2,5),(3,6),(4,7)] (by kernel_rfl) [5] (by kernel_rfl) [[(0,0)],[(0,0)],[(0,0)],[(0,0)],[(0,0)],[(0,1)]] (by kernel_rfl)
  (zcf z w.heap.size v) qbt (isV [.agg (qh3.map (Value.int .u32)).toArray,.string s,.string ps,.agg (S.map (Value.int .u32)).toArray,.agg (v.map (Value.int .u8)).toArray,undef])
  ((Upd.refl _ _).drew) (fun _=>qbt.all _ _) (fun _ _ _ _ _ _ _ _ _ h=>h) ?_ ?_
 ·refine .one rfl ?_ <| .pure rfl (fun _=>qbt.all _ _) rfl ?_ <| .one rfl ?_ <| .one rfl ?_ <| .one rfl ?_ <| .one rfl ?_ <| .nil
  ·intro ql w1 f _;replace f:qq z w1:=f;have C:=((qa HT).new f).row;generalize (qh3.map (Value.int .u32)).toArray=hB at C ⊢;unfold zm;simp only[qaa];go_simp;exact⟨qbt.all _ _,f,rfl⟩
  ·intro ql w1 _;unfold zm;simp only[qaa];go_simp
   first | exact⟨rfl,rfl⟩ | rfl
  ·rintro ql w1 f ⟨m,-⟩;replace f:qq z w1:=f;replace m:ql 1 = .string s:=m;unfold zm;simp only[qaa];go_simp;refine(qa HP w1).mono ?_;rintro e w2 ⟨rfl,L⟩;exact⟨_,rfl,qbt.all _ _,f.trans L,rfl⟩
  ·rintro ql w1 f ⟨m,p1,-⟩;replace f:qq z w1:=f;replace m:ql 0 = .agg (qh3.map (Value.int .u32)).toArray:=m;replace p1:ql 2 = .string ps:=p1;have E:=qb (qa HB w1 ((qa HT).new f));generalize (qh3.map (Value.int .u32)).toArray=hB at m E;unfold zm;simp only[qaa];go_simp;refine(qa E).mono ?_;rintro e w2 ⟨rfl,L⟩;exact⟨_,rfl,qbt.all _ _,f.trans L,rfl⟩
  ·rintro ql w1 f ⟨m,-⟩;replace f:qq z w1:=f;replace m:ql 3 = .agg (S.map (Value.int .u32)).toArray:=m;have E:=qb (qa HY w1);generalize (S.map (Value.int .u32)).toArray=hB at m E;unfold zm;simp only[qaa];go_simp;refine(qa E).mono ?_;rintro e w2 ⟨rfl,L⟩;exact⟨_,rfl,qbt.all _ _,f.trans L,rfl⟩
  ·rintro ql w1 f ⟨m,-⟩;replace f:qq z w1:=f;replace m:ql 4 = .agg (v.map (Value.int .u8)).toArray:=m;have F:=H0.upd f (fun h=>h);have J:=F.stOk (r:=v) (n:=32) (by simpa using qa M) (qa M);have H:=qb (F.setAll (r:=v) (by simpa using qa M));have P:=qb ((f.mono (T:=fun k=>k=w.heap.size) (fun _ _ h=>h.elim)).then ((Upd.refl (· = w.heap.size) w1).setCells 0 (v.map (Value.int .u8))) (fun _ _ h=>h));have e0:(v.map (Value.int .u8)).toArray.toList=v.map (Value.int .u8):=rfl;generalize Y:(v.map (Value.int .u8)).toArray=cs at m J e0;generalize X:v.map (Value.int .u8)=cl at e0 H P;clear Y X F;unfold zm;simp only[qaa];go_simp;exact⟨qbt.all _ _,⟨qa P,qa H⟩,rfl⟩
 ·intro ql w1 f hv;clear hv;replace f:Upd (fun k=>k=w.heap.size) z w1∧qbg .u8 w1 w.heap.size v:=f;obtain⟨P,T1,F⟩:=f;simp only[qaa];have nE:=n0.then P (by intro q hq h;omega);go_wp2_with fail;refine bodyPost_ret (results_cell_row rfl _ _ w.heap.size T1 _ _ _ rfl F Tryz.underlying35 rfl (by rw[List.size_toArray,List.length_map,qa M];exact Tryz.infoHash)) rfl ?_;exact⟨by rw[qa R],nE⟩
end
section
open Go.RowKit
def qdx(w:World)(base:Nat)(v:Value)(xs:List Int):Prop :=
 ∃g cap f i,v = .slice (some ⟨g,0,none⟩) xs.length cap∧base≤g∧w.heap[g]? = some (.cells f 5 i)∧(i=(0,0)∨f.size≤i.1)∧xs.length≤cap∧f.size=cap∧f.toList.take xs.length=xs.map (Value.int .u8)
theorem qdx.shape{w:World}{base:Nat}{v:Value}{xs:List Int}(h:qdx w base v xs):∃a c,v = .slice (some a) xs.length c:=by
 obtain⟨g,cap,f,i,rfl,_⟩:=h;exact⟨_,_,rfl⟩
theorem qdx.ge{w:World}{base:Nat}{v:Value}{xs:List Int}(h:qdx w base v xs){k:Nat}(f:v.ownBlock=some k):base≤k∧k<w.heap.size:=by
 obtain⟨g,cap,i,r,rfl,m,q,_⟩:=h;simp[Value.ownBlock] at f;subst f;exact⟨m,zr q⟩
theorem qdx.ofO{w:World}{base:Nat}{v:Value}{xs:List Int}(h:qb1 w base v xs)(E:0<xs.length):qdx w base v xs:=by
 rcases h.2 with ⟨rfl,e⟩ | ⟨g,cap,f,rfl,i,r,m,z,C,q⟩
 ·omega
 ·exact⟨g,cap,f,(0,0),rfl,i,r,.inl rfl,m,by omega,by simpa using q⟩
def qc7(s:ByteArray):List Int:=s.data.toList.map fun c=>(c.toNat:Int)
theorem qj8(s:ByteArray):(qc7 s).length=s.size:=by
 unfold qc7;rw[List.length_map,Array.length_toList];rfl
theorem qdx.ofS(w:World)(s:ByteArray)(cap base:Nat)(i:base≤w.heap.size)(m:s.size≤cap) :
  qdx (w.drew.alloc (.cells (bytesRow s cap) 5 ((bytesRow s cap).size,(bytesRow s cap).size+1))) base (.slice (some ⟨w.heap.size,0,none⟩) s.size cap) (qc7 s):=by
 have f:(bytesRow s cap).size=cap:=by
  unfold bytesRow;have:s.data.size=s.size:=rfl;simp;omega
 refine⟨w.heap.size,cap,bytesRow s cap,((bytesRow s cap).size,(bytesRow s cap).size+1),by rw[qj8],i,?_,.inr (Nat.le_refl _),by rw[qj8];exact m,f,?_⟩
 ·exact qj w.drew _
 ·unfold bytesRow qc7;rw[Array.toList_append,List.take_append_of_le_length (by simp)];simp;rw[List.take_of_length_le (by simp)];rfl
theorem qhu{M:Array Oper}{rest:List Oper}{o:Oper}{a:Act}{Q:Exit→Act→World→Prop}(J:o.guard=none)(s x:Operand)
  (ho:o.op = .call {callee:= .builtin .append,args:=#[s,x],argTypes:=#[95,95]})
  (base:Nat) (v:Value) (xs:List Int) (hs:a.eval s=v) (c:Int) (T:TypeId) (w:World) (hx:a.eval x = .slice (some ⟨w.heap.size,0,none⟩) 1 1) (L:qdx w base v xs) (hl:xs.length≤1073741824) (hb:base≤w.heap.size)
  (h:∀O w',qdx w' base O (xs++[c])→Upd (fun k=>v.ownBlock=some k) w w'→wpList Tryz.prog M Q rest (a.put o.dst O) w') :
  wpList Tryz.prog M Q (o::rest) a (w.alloc (.cells #[.int .u8 c] T)):=by
 obtain⟨i,hi,X,m,Y⟩:=info_parts Tryz.infoU8
 obtain⟨g,cap,f,P,rfl,e2,hg,N,e3,e4,Z⟩:=L
 have z:(w.alloc (.cells #[.int .u8 c] T)).heap[g]? = some (.cells f 5 P):=qs hg _
 have E:∀j u,[Value.int .u8 c][j]? = some u→(w.alloc (.cells #[.int .u8 c] T)).cell? ((⟨w.heap.size,0,none⟩:Addr).add j)=some u:=by
  intro j u C;have q:(⟨w.heap.size,0,none⟩:Addr).add j=⟨w.heap.size,j,none⟩:=by unfold Addr.add;split<;>simp_all
  rw[q,qg (qj _ _)];simpa using C
 have F:∀u∈[Value.int .u8 c],u.oneCell'=true:=by
  intro u hu;obtain rfl:=List.mem_singleton.1 hu;rfl
 by_cases r:xs.length+1≤cap
 ·refine wpList_append_room_src _ J s x 95 95 ho 5 i Tryz.underlying95 hi g 0 xs.length cap hs _ hx 1 [.int .u8 c] (Src.ofSlice _ Tryz.underlying95 ⟨w.heap.size,0,none⟩ 1 1 _ (by rw[m];rfl) E F) r ?_ ?_ ?_
  ·intro j C;rw[qg z];simp only[List.length_cons,List.length_nil] at C;rw[Array.getElem?_eq_getElem (by rw[m];omega)];rfl
  ·intro j C;simp only[List.length_cons,List.length_nil] at C;have a7:0+xs.length*i.size+j<f.size:=by rw[m];omega
   unfold World.frozen?;rw[z];rcases N with rfl | N
   ·simp
   ·obtain⟨lo,a6⟩:=P;simp only at N ⊢;rw[show decide (lo≤0+xs.length*i.size+j)=false by simpa using by omega];rfl
  ·refine h _ _ ⟨g,cap,f.setIfInBounds xs.length (.int .u8 c),P,by simp,e2,?_,by simpa using N,by simpa using r,by simpa using e4,?_⟩ ?_
   ·have:=qad z (0+xs.length*i.size) (.int .u8 c);rw[show 0+xs.length*i.size=xs.length by rw[m];omega] at this;simpa [World.setCells,m] using this
   ·rw[List.length_append,List.map_append,Array.toList_setIfInBounds];simp only[List.length_cons,List.length_nil,List.map_cons,List.map_nil,Nat.zero_add];have W:xs.length<f.toList.length:=by
     have h9:f.toList.length=f.size:=Array.length_toList;omega
    rw[List.take_add_one,List.take_set_of_le (Nat.le_refl _),Z,List.getElem?_set_self W];rfl
   ·have u0:Upd (fun k=>(Value.slice (some ⟨g,0,none⟩) xs.length cap).ownBlock=some k) w (w.alloc (.cells #[.int .u8 c] T)):=(Upd.refl _ _).alloc _;simp only[World.setCells];exact u0.setCell (p:=⟨g,0+xs.length*i.size,none⟩) (fun _=>rfl) _
 ·refine wpList_append_grows _ J s x 95 ho 5 i (.int .u8 0) 1 1 Tryz.underlying95 hi X m Y rfl (by decide) (some ⟨g,0,none⟩) xs.length cap (xs.map (Value.int .u8)) hs (fun h=>by cases h) (by simp) ?_ ⟨w.heap.size,0,none⟩ 1 1 [.int .u8 c] hx rfl E F (by omega) (by unfold maxLen;omega) (by omega) ?_
  ·intro b S j u C;obtain rfl:(⟨g,0,none⟩:Addr)=b:=Option.some.inj S;have V:j<xs.length:=by
    have:=(List.getElem?_eq_some_iff.1 C).1;simpa using this
   have q:(⟨g,0,none⟩:Addr).add j=⟨g,j,none⟩:=by unfold Addr.add;split<;>simp_all
   rw[q,qg z,←Array.getElem?_toList];rw[←Z,List.getElem?_take_of_lt V] at C;exact C
  ·intro O w' K U;refine h O w' (qdx.ofO (xs:=xs++[c]) ?_ (by simp)) ((((Upd.refl _ w).alloc _)).grown U (fun k e _=>by cases e));unfold qb1;rw[List.length_append,List.map_append];refine⟨K.1,?_⟩;rcases K.2 with R | ⟨g2,H,I,h1,R,h3⟩
   ·exact .inl R
   ·exact .inr ⟨g2,H,I,h1,by simp at R;omega,h3⟩
theorem qs2{w:World}{base:Nat}{v:Value}{xs:List Int}(h:qdx w base v xs):(convert 95 9 v).run Tryz.prog w = .ok (.string (strOfNums xs)) w:=by
 obtain⟨g,cap,f,H,rfl,C,z,I,E,F,q⟩:=h;refine run_convert_bytes_arg w 95 5 Tryz.underlying95 Tryz.underlying5 g 0 xs.length cap xs rfl (fun i m=> ?_) 9 Tryz.underlying9;have r:f.toList[i]? = (xs.map (Value.int .u8))[i]? := by rw[←q,List.getElem?_take_of_lt (by omega)]
 rw[Nat.zero_add,qg z i,←Array.getElem?_toList,r,List.getElem?_map,List.getElem?_eq_getElem m];simp[List.getD,List.getElem?_eq_getElem m]
section
variable {P:Program}{ops:Array Oper}{rest:List Oper}{o:Oper}{a:Act}{w w':World}{Q:Exit→Act→World→Prop}
theorem zj{v:Value}(i:o.guard=none)(h:(execOp a.eval o).run P w = .ok (.value v) w')(k:wpList P ops Q rest (a.put o.dst v) w'):wpList P ops Q (o::rest) a w :=
 wpList_plain i fun K f=>by
  unfold Oper.wp;rw[h];exact f _ _ k
theorem qdi{f:FuncId}{args:Array Value}(r:o.guard=none)(h:(execOp a.eval o).run P w = .ok (.enter f args) w')
  (k:Calls P f args w' fun e i=>∃v,e = .returned v∧wpList P ops Q rest (a.put o.dst v) i):wpList P ops Q (o::rest) a w :=
 wpList_plain r fun K m=>by
  unfold Oper.wp;rw[h];simp only[Oper.upon];refine k.mono fun e i q=> ?_
  obtain⟨v,rfl,z⟩:=q;exact m _ _ z
end
theorem Upd.setRow{S:Nat→Prop}{a w:World}(h:Upd S a w){g:Nat}(q:g<a.heap.size→S g)(cs:Array Value):Upd S a (w.setRow g cs) :=
 ⟨h.os,h.tape,h.output,by simpa using h.size,fun i f m=>by
  rw[setRow_other _ _ _ _ (show i≠g from fun e=>m (e▸q (e▸f)))];exact h.block i f m⟩
def q9j(n:Nat)(f:Nat):List Int:=(List.range f).map fun k=>(n:Int) / 2 ^ (8*(f-1-k))%256
theorem q6r(n f:Nat):(q9j n f).length=f:=by simp[q9j]
def qw(n f:Nat):ByteArray:=strOfNums (q9j n f)
theorem qat(n f:Nat):(qw n f).size=f:=by unfold qw;rw[strOfNums_size,q6r]
def Wr(w:World)(g:Nat)(s:ByteArray):Prop:=w.heap[g]? = some (.cells #[.string s] 174 (0,0))
theorem Wr.new{w w':World}{g:Nat}{s:ByteArray}(h:Wr w g s)(n:qq w w'):Wr w' g s:=n.old h (fun h=>h)
theorem Wr.lt{w:World}{g:Nat}{s:ByteArray}(h:Wr w g s):g<w.heap.size:=zr h
def qgi(w:World)(b:Nat)(ws:List Int):Prop:=∃T,w.heap[b]? = some (.cells (ws.map (Value.int .u8)).toArray T (0,0))
def qss(n f m:Nat):List Int:=(List.range m).map fun k=>(n:Int) / 2 ^ (8*(f-1-k))%256
theorem qds(g n f:Nat)(s:ByteArray)(w:World)(hg:Wr w g s)(b9:1≤f)(c1:f≤8)(hn:n<2 ^ (8*f))(hs:s.size≤1073741824) :
  Calls Tryz.prog 92 #[.pointer (some ⟨g,0,none⟩),.int .u64 n,.int .i64 f] w fun e w'=>e = .returned (.int .i64 0)∧Upd (fun k=>k=g) w w'∧Wr w' g (s++qw n f):=by
 have r:n<18446744073709551616:=Nat.lt_of_lt_of_le hn (by
  have:(2:Nat) ^ (8*f)≤2 ^ 64:=Nat.pow_le_pow_right (by decide) (by omega);exact this)
 have a6:(n:Int) / 2 ^ (8*f)=0:=by
  refine Int.ediv_eq_zero_of_lt (by omega) ?_;exact_mod_cast hn
 have b5:(1:Int)≤f:=by omega
 have b6:(f:Int)≤8:=by omega
 have a8:(8*(f:Int)).toNat=8*f:=by omega
 have J:decide ((f:Int)<1)=false:=by simp;omega
 have Y:decide ((8:Int)<(f:Int))=false:=by simp;omega
 have K:¬(f:Int)<1:=by omega
 have I:¬(8:Int)<(f:Int):=by omega
 have C:(n:Int)<18446744073709551616:=by omega
 go_enter Tryz.func92,Tryz.ntmps92
 go_wp2_with fail
 clear a6 a8 J Y K I
 have b7:=hg.lt
 go_loopw [7,8] (fun bv iv wr=>∃(m:Nat) (a:Option Addr) (c:Nat),iv = .int .i64 ((f:Int)-1-(m:Int))∧m≤f∧bv = .slice a m c∧Hid (qb1 wr w.heap.size bv (qss n f m))∧Upd (fun k=>w.heap.size≤k) w wr) (fun _ iv _=>(intOf iv+1).toNat)
 case atStart=>exact⟨0,_,_,by simp,Nat.zero_le _,rfl,qb (qb1.nil _ _),Upd.refl _ _⟩
 case round =>
  obtain⟨m,a,c,rfl,hm,rfl,S,R⟩:=hrel;by_cases J:m<f
  ·have b8:(m:Int)<(f:Int):=by omega
   have hb:=R.size;have ht:(8*((f:Int)-1-(m:Int))).toNat=8*(f-1-m):=by omega
   have hp:∀k:Nat,(n:Int) / 2 ^ k<18446744073709551616∧0≤(n:Int) / 2 ^ k:=fun k=>by
    have hp:(1:Int)≤2 ^ k:=Int.pow_pos (by decide);exact⟨Int.lt_of_le_of_lt (Int.ediv_le_self _ (by omega)) C,Int.ediv_nonneg (by omega) (by omega)⟩
   obtain⟨q1,q0⟩:=hp (8*(f-1-m));have a7:IntKind.u64.wrap ((n:Int) / 2 ^ (8*(f-1-m)))=(n:Int) / 2 ^ (8*(f-1-m)):=by rw[IntKind.wrap_u64];omega
   have b3:=qb (And.intro r C);have M:(qss n f m).length≤1073741824:=by simp[qss];omega
   have N:qss n f (m+1)=qss n f m++[(n:Int) / 2 ^ (8*(f-1-m))%256]:=by unfold qss;rw[List.range_succ,List.map_append];rfl
   have v:(qss n f (m+1)).length=m+1:=by simp[qss]
   have E:=qb N;have W:=qb v;have Z:0≤(f:Int)-1-(m:Int):=by omega
   clear hp N v q1 r C;go_wp2_with (at_builtin;refine qiu rfl (.tmp 28) (.tmp 34) rfl w.heap.size _ _ rfl _ _ _ rfl (qa S) M hb ?_);intro v' w5 i u5;have u6:=R.then u5 (fun q _ h=>((qa S).ge h).1);rw[←qa E] at i;obtain⟨a5,c5,rfl⟩:=i.shape;rw[qa W] at i ⊢;have V:=qb i;clear i u5 S E q0 M ht Z a7;go_wp2;go_roundw
   case rel=>exact⟨m+1,a5,c5,by congr 1;omega,by omega,rfl,V,u6⟩
   case measure=>simp[intOf];omega
  ·obtain rfl:m=f:=by omega
   rw[show (m:Int)-1-(m:Int) = -1 by omega];have P:=qjb (((qa S).upd ((Upd.refl (fun _=>False) wr).drew) (fun _ _ h=>h)));have z:=R.old hg (fun h=>by omega);have c0:=qg z 0;have z0:=qv z 0;simp at c0;have L:strOfNums (qss n m m)=qw n m:=rfl;rw[L] at P;have hq:=qat n m;generalize O:qw n m=q at P hq ⊢;have X:=qb O;clear O;have F:=qad z 0 (.string (s++q));have nW:qq w wr:=Upd.of_below (R.below' (Nat.le_refl _) (fun _ h=>h)) (Nat.le_refl _);have uW:Upd (fun k=>k=g) w (wr.setCell ⟨g,0,none⟩ (.string (s++q))):=(nW.mono (T:=fun k=>k=g) (fun _ _ h=>h.elim)).set1 0 _;have U:=qb F;clear F nW R;clear L;have b4:¬9223372036854775807<s.size+m:=by omega
   go_wp2_with fail;go_region_law (fail)
   all_goals
    have H:=qa U;generalize wr.setCell ⟨g,0,none⟩ (.string (s++q))=wS at H uW ⊢;go_wp2;go_ret;exact⟨rfl,uW.drew,by rw[qa X];exact H⟩
theorem qgi.drew{w:World}{b:Nat}{ws:List Int}(h:qgi w b ws):qgi w.drew b ws:=h
theorem qdj{w:World}{b:Nat}{xs:List Int}(h:qgi w b xs)(n:Nat)(f:xs.length=n):(convert 95 9 (.slice (some ⟨b,0,none⟩) n n)).run Tryz.prog w = .ok (.string (strOfNums xs)) w:=by
 obtain⟨T,h⟩:=h;exact qda w 95 9 5 Tryz.underlying95 Tryz.underlying5 Tryz.underlying9 b n xs T (0,0) n f h
theorem qt9(g:Nat)(h:List Int)(s:ByteArray)(w:World)(H:Wr w g s)(I:h.length=32)(R:s.size≤1073741824) :
  Calls Tryz.prog 189 #[.pointer (some ⟨g,0,none⟩),.agg (h.map (Value.int .u8)).toArray] w fun e w'=>e = .returned (.tuple #[])∧Upd (fun k=>k=g) w w'∧Wr w' g (s++strOfNums h):=by
 have P:(strOfNums h).size=32:=by rw[strOfNums_size,I]
 generalize r:(h.map (Value.int .u8)).toArray=K
 go_enter Tryz.func189,Tryz.ntmps189
 go_upto_region 1 with fail
 have F:qgi (w.alloc (.cells K 35)) w.heap.size h:=⟨_,by rw[r];exact qj _ _⟩
 have z:qq w (w.alloc (.cells K 35)):=(Upd.refl _ _).alloc _
 have O:=H.lt
 have f:=H.new z
 generalize w.alloc (.cells K 35)=w1 at F z f ⊢
 have J:=qdj (F.drew) 32 I
 have N:=qg f 0
 have z0:=qv f 0
 simp at N
 generalize v:strOfNums h=q at J P
 have E:=qb v
 have i:=qad f 0 (.string (s++q))
 have M:Upd (fun k=>k=g) w (w1.setCell ⟨g,0,none⟩ (.string (s++q))):=(z.mono (T:=fun k=>k=g) (fun _ _ h=>h.elim)).set1 0 _
 have C:=qb i
 have L:¬9223372036854775807<s.size+32:=by omega
 clear v i z F r f H I
 go_region_law (fail)
 all_goals
  have m:=qa C;generalize w1.setCell ⟨g,0,none⟩ (.string (s++q))=S at m M ⊢;go_end0;exact⟨rfl,M.drew,by rw[qa E];exact m⟩
theorem qf3(g:Nat)(s:ByteArray)(w:World)(f:Wr w g s) :
  Calls Tryz.prog 93 #[.pointer (some ⟨g,0,none⟩)] w fun e w'=>e = .returned (.string s)∧w=w':=by
 have i:=qg f 0
 simp at i
 clear f
 go_enter Tryz.func93,Tryz.ntmps93
 go_wp2
 go_ret
 exact⟨rfl,rfl⟩
end
end Go.Proofs.YtfmkdoachjgjbaaGreatDoor
