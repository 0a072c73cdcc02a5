/-
  Package digest: blocks.
-/
import Derived.Test.YtfmkdoachjgjbaaGreatDoorMad
import Derived.Test.YtfmkdoachjgjbaaGreatDoorRows
import Derived.Test.YtfmkdoachjgjbaaGreatDoorMaa
import Derived.OpenShut
import Derived.Outline
import Derived.Lib.JoinLaws
import Derived.ArgAppend
import Derived.Laws.IdiomStrings
import Derived.Laws.Tables
import Derived.Laws.BitsAllLaws
import Derived.Laws.Bits64
import Derived.IntWalk
import Derived.Deep.CutRange
import Derived.BigRegion
import Derived.Deep.RegionLaw
set_option maxRecDepth 100000
set_option maxHeartbeats 1000000
set_option linter.unusedVariables false
set_option linter.unusedSimpArgs false
namespace Go.Proofs.YtfmkdoachjgjbaaGreatDoor
section
open Go.RowKit
def ql4:Nat→List Int→ByteArray→List Int
 | 0,h,_=>h
 | n+1,h,s=>ql4 n (qte h (s.extract 0 64)) (s.extract 64 s.size)
def q9c:Value→Nat
 | .string b=>b.size
 | _=>0
theorem qx1(n:Nat):∀(h:List Int) (s:ByteArray),h.length=8∧qej h→(ql4 n h s).length=8∧qej (ql4 n h s):=by
 induction n with
 | zero=>intro h s i;exact i
 | succ n m=>intro h s i;exact m _ _ (qx4 _ _ i)
def zbm(i:World)(A:Nat)(r:List Int):Nat→World→Prop
 | 0,w=>qq i w
 | _,w=>Upd (fun k=>k=A) i w∧qbl .u32 w A r
theorem q0e{C:Array Value}{m:List Value}(h:C.size=m.length):qhz C 0 m=m.toArray:=by
 refine Array.ext_getElem? fun i=> ?_
 rw[qig C 0 m i (by omega)];by_cases t:i<m.length
 ·rw[if_pos (by omega)];simp
 ·have o:C[i]? = none:=Array.getElem?_eq_none (by omega);have q:m.toArray[i]? = none:=Array.getElem?_eq_none (by simp;omega);rw[if_neg (by omega),o,q]
theorem qbl.setAll{k:IntKind}{w:World}{b:Nat}{ws:List Int}(h:qbl k w b ws){r:List Int}(i:r.length=ws.length):qbl k (w.setCells b 0 (r.map (Value.int k))) b r:=by
 obtain⟨T,h⟩:=h;refine⟨T,(qax h 0 _).trans ?_⟩;rw[q0e (by simp[i])]
theorem qbl.stOk{k:IntKind}{w:World}{b:Nat}{ws:List Int}(h:qbl k w b ws){r:List Int}{n:Nat}(m:r.length=ws.length)(i:r.length=n):stOk w b 0 n (r.map (Value.int k)).toArray=true:=by
 obtain⟨T,h⟩:=h;refine qd4 h (by simp;omega) (by simp;omega) ?_;rw[List.all_toArray,List.all_map,List.all_eq_true];intro x _;rfl
def za3(x:Value):Sem Value:=Instr.loadAt 295 x
theorem qns(x:Value):Instr.loadAt 295 x=za3 x:=rfl
theorem q81(b o:Nat)(w:World):(za3 (.pointer (some ⟨b,o,none⟩))).run Tryz.prog w=match zt w b o 8 with | some A=> .ok (.agg A) w | none=>qc3 Tryz.prog 295 w b o :=
 qag 295 8 _ Tryz.underlying295 rfl Tryz.infoW8 b o w
def zbf(x v:Value):Sem Unit:=Instr.storeAt 295 x v
theorem qom(x v:Value):Instr.storeAt 295 x v=zbf x v:=rfl
theorem q9b(b o:Nat)(A:Array Value)(w:World):(zbf (.pointer (some ⟨b,o,none⟩)) (.agg A)).run Tryz.prog w=if stOk w b o 8 A=true then .ok () (w.setCells b o A.toList) else qes Tryz.prog 295 w b o A :=
 qaz 295 8 Tryz.infoW8 b o A w
attribute [local go_sem ↓ high] qns qom
attribute [local go_sem] q81 q9b
theorem qvl(h:List Int)(s:ByteArray)(w:World)(hh:h.length=8)(hu:qej h)(hs:s.size≤1073741824)(b1:Tabs w) :
  Calls Tryz.prog 197 #[.agg (h.map (Value.int .u32)).toArray,.string s] w fun e w'=>e = .returned (.agg ((ql4 (s.size / 64) h s).map (Value.int .u32)).toArray)∧qq w w':=by
 have hw:=b1.lt
 obtain⟨h0,h1,h2,h3,h4,h5,h6,h7,rfl⟩:=qcl hh
 simp only[List.map_cons,List.map_nil]
 go_enter Tryz.func197,Tryz.ntmps197
 go_upto_region 1 with fail
 obtain⟨wA,I⟩:∃wA:World,wA=(w.alloc (.cells #[.int .u32 h0,.int .u32 h1,.int .u32 h2,.int .u32 h3,.int .u32 h4,.int .u32 h5,.int .u32 h6,.int .u32 h7] 295)).alloc (.cells #[.int .u32 0,.int .u32 0,.int .u32 0,.int .u32 0,.int .u32 0,.int .u32 0,.int .u32 0,.int .u32 0] 295):=⟨_,rfl⟩
 have sA:wA.heap.size=w.heap.size+2:=by rw[I];simp
 have nA:qq w wA:=by rw[I];exact((Upd.refl _ _).alloc _).alloc _
 have vA:qbl .u32 wA w.heap.size [h0,h1,h2,h3,h4,h5,h6,h7]:=by rw[I];exact⟨_,qx (ql _ _) _⟩
 have vR:qbl .u32 wA (w.heap.size+1) [0,0,0,0,0,0,0,0]:=by
  rw[I];have:=ql (w.alloc (.cells #[.int .u32 h0,.int .u32 h1,.int .u32 h2,.int .u32 h3,.int .u32 h4,.int .u32 h5,.int .u32 h6,.int .u32 h7] 295)) (.cells #[.int .u32 0,.int .u32 0,.int .u32 0,.int .u32 0,.int .u32 0,.int .u32 0,.int .u32 0,.int .u32 0] 295);rw[World.size_alloc] at this;exact⟨_,this⟩
 rw[←I]
 clear I
 have TA:=b1.new nA
 generalize b0:w.heap.size=A at *
 have a8:=qj b0
 clear b0
 obtain⟨wo,rfl⟩:∃wo:World,wo=wA:=⟨_,rfl⟩
 generalize b2:[h0,h1,h2,h3,h4,h5,h6,h7]=Y at vA hu
 have b3:Y.length=8:=by rw[←b2];rfl
 go_wp2_with fail
 go_loopw [1,10] (fun sv _ wr=>∃(t:ByteArray) (hc:List Int),sv = .string t∧t.size≤s.size∧hc.length=8∧qej hc∧Hid (ql4 (t.size / 64) hc t=ql4 (s.size / 64) Y s)∧qbl .u32 wr A hc∧Upd (fun k=>k=A) wo wr) (fun sv _ _=>q9c sv)
 case atStart=>exact⟨s,Y,rfl,Nat.le_refl _,b3,hu,qj rfl,vA,Upd.refl _ _⟩
 case round =>
  obtain⟨t,hc,rfl,c3,a2,X,HE,hA,ur⟩:=hrel;obtain⟨J,K,M,N,O,P,R,U,rfl⟩:=qcl a2;obtain⟨wq,rfl⟩:∃wq:World,wq=wr:=⟨_,rfl⟩;by_cases c1:64≤t.size
  ·have c2:=ur.size;have b5:(t.extract 0 64).size=64:=by rw[ByteArray.size_extract];omega
   have b8:=TA.upd ur (by omega) (by omega);have hC:∀W,qq wq W→_:=fun W n=>qrl [J,K,M,N,O,P,R,U] (t.extract 0 64) W rfl X b5 (b8.new n)
   have b4:=qx4 [J,K,M,N,O,P,R,U] (t.extract 0 64) ⟨rfl,X⟩;have o:ql4 (t.size / 64) [J,K,M,N,O,P,R,U] t=ql4 ((t.extract 64 t.size).size / 64) (qte [J,K,M,N,O,P,R,U] (t.extract 0 64)) (t.extract 64 t.size):=by
    obtain⟨n,hn⟩:∃n,t.size / 64=n+1:=⟨t.size / 64-1,by omega⟩;have:(t.extract 64 t.size).size / 64=n:=by rw[ByteArray.size_extract];omega
    rw[hn,this];rfl
   simp only[List.map_cons,List.map_nil] at hC;generalize qte [J,K,M,N,O,P,R,U] (t.extract 0 64)=r at hC b4 o;obtain⟨r8,b9⟩:=b4;obtain⟨v,x,y,z,C,D,E,H,rfl⟩:=qcl r8;simp only[List.map_cons,List.map_nil] at hC;have HC:=qj hC;have HN:=qj (o.symm.trans (qg HE));clear hC o HE r8;have HA:=qj hA;clear hA X a2;have t1:(64:Int)≤(t.size:Int):=by omega
   have t2:¬(t.size:Int)<64:=by omega
   go_wp2_with fail;refine qms (by kernel_rfl) [[],[],[(1,12)],[(0,11),(2,13)],[(3,14)],[(4,10)],[(4,10)],[(5,15)]] 18 rfl (by kernel_rfl) [(0,11),(1,12),(2,13),(3,14),(4,10),(5,15),(6,16)] (by kernel_rfl) [7] (by kernel_rfl) [[(0,0)],[(0,0)],[(0,0)],[(0,0)],[(0,0)],[(0,0)],[(0,0),(1,1)],[(0,1)]] (by kernel_rfl)
    (zbm wq A [v,x,y,z,C,D,E,H]) qcw
    (isV [.agg #[.int .u32 J,.int .u32 K,.int .u32 M,.int .u32 N,.int .u32 O,.int .u32 P,.int .u32 R,.int .u32 U],.string t,.string (t.extract 0 64),
     .tuple #[.agg #[.int .u32 v,.int .u32 x,.int .u32 y,.int .u32 z,.int .u32 C,.int .u32 D,.int .u32 E,.int .u32 H],.bool true],.tuple #[.agg #[.int .u32 v,.int .u32 x,.int .u32 y,.int .u32 z,.int .u32 C,.int .u32 D,.int .u32 E,.int .u32 H],.bool true],
     .agg #[.int .u32 v,.int .u32 x,.int .u32 y,.int .u32 z,.int .u32 C,.int .u32 D,.int .u32 E,.int .u32 H],.bool true,undef])
    ((Upd.refl _ _).drew) (fun _=>qcw.all _ _) (fun _ _ _ _ _ _ _ _ _ h=>h) ?_ ?_
   ·refine .one rfl ?_ <| .pure rfl (fun _=>qcw.all _ _) rfl ?_ <| .pure rfl (fun _=>qcw.all _ _) rfl ?_ <| .one rfl ?_ <| .pure rfl (fun _=>qcw.all _ _) rfl ?_ <| .pure rfl (fun _=>qcw.all _ _) rfl ?_ <| .pure rfl (fun _=>qcw.all _ _) rfl ?_ <| .one rfl ?_ <| .nil
    ·intro qz w1 m _;replace m:qq wq w1:=m;have hr:=((qg HA).upd m (fun h=>h)).row (n:=8) rfl;simp only[List.map_cons,List.map_nil] at hr;unfold qam;simp only[putL];go_simp;exact⟨qcw.all _ _,m,rfl⟩
    ·intro qz w1 _;unfold qam;simp only[putL];go_simp
     first | exact⟨rfl,rfl⟩ | rfl
    ·rintro qz w1 ⟨i,-⟩;replace i:qz 1 = .string t:=i;unfold qam;simp only[putL];go_simp
     first | exact⟨rfl,rfl⟩ | rfl
    ·rintro qz w1 m ⟨i,p1,-⟩;replace i:qz 0 = .agg #[.int .u32 J,.int .u32 K,.int .u32 M,.int .u32 N,.int .u32 O,.int .u32 P,.int .u32 R,.int .u32 U]:=i;replace p1:qz 2 = .string (t.extract 0 64):=p1;unfold qam;simp only[putL];go_simp;refine(qg HC w1 m).mono ?_;rintro e w2 ⟨rfl,n2⟩;exact⟨_,rfl,qcw.all _ _,Upd.trans m n2,rfl⟩
    ·rintro qz w1 ⟨i,-⟩;replace i:qz 3 = .tuple #[.agg #[.int .u32 v,.int .u32 x,.int .u32 y,.int .u32 z,.int .u32 C,.int .u32 D,.int .u32 E,.int .u32 H],.bool true]:=i;unfold qam;simp only[putL];go_simp
     first | exact⟨rfl,rfl⟩ | rfl
    ·rintro qz w1 ⟨i,-⟩;replace i:qz 4 = .tuple #[.agg #[.int .u32 v,.int .u32 x,.int .u32 y,.int .u32 z,.int .u32 C,.int .u32 D,.int .u32 E,.int .u32 H],.bool true]:=i;unfold qam;simp only[putL];go_simp
     first | exact⟨rfl,rfl⟩ | rfl
    ·rintro qz w1 ⟨i,-⟩;replace i:qz 4 = .tuple #[.agg #[.int .u32 v,.int .u32 x,.int .u32 y,.int .u32 z,.int .u32 C,.int .u32 D,.int .u32 E,.int .u32 H],.bool true]:=i;unfold qam;simp only[putL];go_simp
     first | exact⟨rfl,rfl⟩ | rfl
    ·rintro qz w1 m ⟨i,-⟩;replace m:qq wq w1:=m;replace i:qz 5 = .agg #[.int .u32 v,.int .u32 x,.int .u32 y,.int .u32 z,.int .u32 C,.int .u32 D,.int .u32 E,.int .u32 H]:=i;have hI:=(qg HA).upd m (fun h=>h);have a6:=hI.stOk (r:=[v,x,y,z,C,D,E,H]) (n:=8) rfl rfl;have a1:=hI.setAll (r:=[v,x,y,z,C,D,E,H]) rfl;simp only[List.map_cons,List.map_nil] at a6 a1;have b6:=qj a1;have u1:=((m.mono (T:=fun k=>k=A) (fun _ _ h=>h.elim)).then ((Upd.refl (· = A) w1).setCells 0 [.int .u32 v,.int .u32 x,.int .u32 y,.int .u32 z,.int .u32 C,.int .u32 D,.int .u32 E,.int .u32 H]) (fun _ _ h=>h));have b7:=qj u1;clear a1 u1 hI;unfold qam;simp only[putL];go_simp
     first | exact⟨qcw.all _ _,⟨qg b7,qg b6⟩,rfl⟩ | (trace_state;sorry)
   ·intro qz w1 m Z;have v0:=Z 0 (by decide);have v1:=Z 1 (by decide);have v2:=Z 2 (by decide);have v3:=Z 3 (by decide);have v4:=Z 4 (by decide);have v5:=Z 5 (by decide);have v6:=Z 6 (by decide);clear Z;replace m:Upd (fun k=>k=A) wq w1∧qbl .u32 w1 A [v,x,y,z,C,D,E,H]:=m;obtain⟨u1,hI⟩:=m;have us:=ur.trans u1;simp only[putL,v0,v1,v2,v3,v4,v5,v6];clear HC HA u1 ur v0 v1 v2 v3 v4 v5 v6;obtain⟨wz,rfl⟩:∃wz:World,wz=w1:=⟨_,rfl⟩;have HI:=qj hI;clear hI;go_simp;go_wp2;go_roundw
    case rel=>exact⟨t.extract 64 t.size,[v,x,y,z,C,D,E,H],rfl,by rw[ByteArray.size_extract];omega,rfl,b9,HN,qg HI,us⟩
    case measure=>simp[q9c];omega
  ·have c0:t.size<64:=by omega
   have hz:t.size / 64=0:=by omega
   have V:=qg HE;rw[hz] at V;replace V:=qj (show ql4 (s.size / 64) Y s=[J,K,M,N,O,P,R,U] from V.symm);clear HE hz;have t1:(t.size:Int)<64:=by omega
   have t2:¬(64:Int)≤(t.size:Int):=by omega
   have a7:=vR.upd ur (by omega);have nn:=nA.then ur (by intro q hq h;rw[qg a8] at hq;omega);subst b2;clear vR ur X a2 TA b3 vA;have hr:=hA.row (n:=8) rfl;have a6:=a7.stOk (r:=[J,K,M,N,O,P,R,U]) (n:=8) rfl rfl;have hR:=a7.setAll (r:=[J,K,M,N,O,P,R,U]) rfl;simp only[List.map_cons,List.map_nil] at hr a6 hR;have HR:=qj hR;have u1:=nn.then ((Upd.refl (· = A+1) wq).setCells 0 [.int .u32 J,.int .u32 K,.int .u32 M,.int .u32 N,.int .u32 O,.int .u32 P,.int .u32 R,.int .u32 U]) (by intro q hq h;rw[qg a8] at hq;omega);have HU:=qj u1;clear hA a7 nn hR u1;go_wp2;obtain⟨TF,hF⟩:=qg HR;refine bodyPost_ret (results_cell_row rfl _ _ (A+1) TF _ _ _ rfl hF Tryz.underlying295 rfl (by exact Tryz.infoW8)) rfl ?_;refine⟨?_,qg HU⟩;rw[qg V]
end
section
open Go.RowKit
theorem Tryz.infoU8:(Tryz.prog.info? 5).map (fun i=>(i.zero,i.size,i.bytes))=some (some (.int .u8 0),1,1):=by kernel_rfl
def qbk(w:World)(base:Nat)(v:Value)(xs:List Int):Prop:=w.ownsRow base 5 1 v xs.length (xs.map (Value.int .u8))
theorem qbk.shape{w:World}{base:Nat}{v:Value}{xs:List Int}(h:qbk w base v xs):∃a c,v = .slice a xs.length c:=by
 rcases h.2 with ⟨rfl,e⟩ | ⟨g,cap,i,rfl,_⟩
 ·exact⟨none,0,by rw[e]⟩
 ·exact⟨_,_,rfl⟩
theorem qbk.ge{w:World}{base:Nat}{v:Value}{xs:List Int}(h:qbk w base v xs){k:Nat}(i:v.ownBlock=some k):base≤k∧k<w.heap.size:=by
 rcases h.2 with ⟨rfl,_⟩ | ⟨g,cap,m,rfl,o,q,_⟩
 ·simp[Value.ownBlock] at i
 ·simp[Value.ownBlock] at i;subst i;exact⟨o,zi q⟩
theorem qbk.upd{S:Nat→Prop}{w w':World}{base:Nat}{v:Value}{xs:List Int}(h:qbk w base v xs)(u:Upd S w w')(q:∀k,v.ownBlock=some k→¬S k):qbk w' base v xs:=by
 refine⟨h.1,?_⟩;rcases h.2 with h | ⟨g,cap,i,m,o,t,r⟩
 ·exact .inl h
 ·exact .inr ⟨g,cap,i,m,o,u.old t (q g (by rw[m];rfl)),r⟩
theorem qbk.new{w w':World}{base:Nat}{v:Value}{xs:List Int}(h:qbk w base v xs)(u:qq w w'):qbk w' base v xs:=h.upd u (fun _ _ h=>h)
theorem qbk.nil(w:World)(base:Nat):qbk w base (.slice none 0 0) []:=⟨rfl,.inl ⟨rfl,rfl⟩⟩
theorem qbk.made(w:World)(base:Nat)(xs:List Int)(i:base≤w.heap.size)(m:xs.length≤1073741824):qbk (w.alloc (.cells (xs.map (Value.int .u8)).toArray 5)) base (.slice (some ⟨w.heap.size,0,none⟩) xs.length xs.length) xs:=by
 refine⟨by simp,.inr ⟨w.heap.size,xs.length,_,rfl,i,ql _ _,Nat.le_refl _,by unfold maxLen;omega,by simp,?_⟩⟩;simp;exact List.take_of_length_le (by simp)
theorem qhp{t:Array Oper}{rest:List Oper}{o:Oper}{a:Act}{Q:Exit→Act→World→Prop}(z:o.guard=none)(s x:Operand)
  (N:o.op = .call {callee:= .builtin .append,args:=#[s,x],argTypes:=#[95,95]})
  (base:Nat) (v:Value) (xs:List Int) (O:a.eval s=v) (c:Int) (T:TypeId) (w:World) (R:a.eval x = .slice (some ⟨w.heap.size,0,none⟩) 1 1) (q:qbk w base v xs) (V:xs.length≤1073741824) (U:base≤w.heap.size)
  (h:∀y w',qbk w' base y (xs++[c])→Upd (fun k=>v.ownBlock=some k) w w'→wpList Tryz.prog t Q rest (a.put o.dst y) w') :
  wpList Tryz.prog t Q (o::rest) a (w.alloc (.cells #[.int .u8 c] T)):=by
 obtain⟨i,K,D,E,H⟩:=info_parts Tryz.infoU8
 have I:(w.alloc (.cells #[.int .u8 c] T)).ownsRow base 5 1 v xs.length (xs.map (Value.int .u8)):=q.new ((Upd.refl _ _).alloc _)
 refine wpList_append_own _ z s x 95 N base 5 i (.int .u8 0) 1 1 Tryz.underlying95 K D E H rfl (by decide) v xs.length _ O I ⟨w.heap.size,0,none⟩ 1 1 [.int .u8 c] R rfl ?_ ?_ (by unfold maxLen;omega) (by omega) (by simp;omega) ?_
 ·intro j u M;have m:(⟨w.heap.size,0,none⟩:Addr).add j=⟨w.heap.size,j,none⟩:=by unfold Addr.add;split<;>simp_all
  rw[m,qk (ql _ _)];simpa using M
 ·intro u P;obtain rfl:=List.mem_singleton.1 P;rfl
 ·intro y w' C J _;refine h y w' ?_ ((((Upd.refl _ w).alloc _)).grown J (fun k e _=>e));unfold qbk;rw[List.length_append,List.map_append];exact C
theorem qd3{w:World}{base:Nat}{v:Value}{xs:List Int}(h:qbk w base v xs):(convert 95 9 v).run Tryz.prog w = .ok (.string (strOfNums xs)) w:=by
 rcases h.2 with ⟨rfl,e⟩ | ⟨g,cap,m,rfl,y,x,z,C,D,q⟩
 ·rw[List.eq_nil_of_length_eq_zero e];exact run_convert_bytes_nil w 95 5 Tryz.underlying95 Tryz.underlying5 0 0 9 Tryz.underlying9
 ·refine run_convert_bytes_arg w 95 5 Tryz.underlying95 Tryz.underlying5 g 0 xs.length cap xs rfl (fun i o=> ?_) 9 Tryz.underlying9;have t:m.toList[i]? = (xs.map (Value.int .u8))[i]? := by rw[←q,List.getElem?_take_of_lt (by omega)]
  rw[Nat.zero_add,qk x i,←Array.getElem?_toList,t,List.getElem?_map,List.getElem?_eq_getElem o];simp[List.getD,List.getElem?_eq_getElem o]
def qfj(n:Nat):Nat:=(119-n%64)%64
theorem qr6(n:Nat):qfj n<64:=Nat.mod_lt _ (by decide)
theorem q7v(n k:Nat)(h:k<qfj n):(n+(k+1)+8)%64≠0:=by unfold qfj at h;omega
theorem q7u(n:Nat):(n+(qfj n+1)+8)%64=0:=by unfold qfj;omega
def qt2(n i:Nat):Int:=(8*n:Int) / 2 ^ (56-8*i)%256
def qoo(n:Nat):List Int:=(128::List.replicate (qfj n) 0)++(List.range 8).map (qt2 n)
theorem qqr(n:Nat):(qoo n).length=qfj n+9:=by simp[qoo]
theorem q52(n:Nat)(w:World)(Y:n≤1073741824) :
  Calls Tryz.prog 213 #[.int .u64 n] w (qar (.string (strOfNums (qoo n))) w):=by
 have Z:=qr6 n
 go_enter Tryz.func213,Tryz.ntmps213
 go_wp2_with fail
 have E:=qbk.made w w.heap.size [128] (Nat.le_refl _) (by decide)
 have O:Upd (fun k=>w.heap.size≤k) w (w.alloc (.cells #[.int .u8 128] 5)):=(Upd.refl _ _).alloc _
 simp only[List.map_cons,List.map_nil,List.length_cons,List.length_nil,Nat.zero_add] at E
 generalize w.alloc (.cells #[.int .u8 128] 5)=wa at E O ⊢
 have o:=qj E
 clear E
 go_loopw [3] (fun x wr=>∃(k:Nat) (a:Option Addr) (c:Nat),x = .slice a (k+1) c∧k≤qfj n∧Hid (qbk wr w.heap.size x (128::List.replicate k 0))∧Upd (fun k=>w.heap.size≤k) w wr) (fun x _=>100-(match x with | .slice _ l _=>l | _=>0))
 case atStart=>exact⟨0,_,_,rfl,Nat.zero_le _,o,O⟩
 case round =>
  obtain⟨k,a,c,rfl,X,o,ur⟩:=hrel;by_cases C:k<qfj n
  ·have y:=q7v n k C;have R:((((n:Int)+((k:Int)+1))+8)%64 != 0)=true:=by rw[bne_iff_ne];omega
   have I:(k:Int)<64:=by omega
   have J:(n:Int)≤1073741824:=by omega
   have H:=ur.size;clear y;go_wp2_with (at_builtin;refine qhp rfl (.tmp 14) (.tmp 15) rfl w.heap.size _ _ rfl 0 _ _ rfl (qg o) (by simp;omega) H ?_);intro V N m D;have M:=ur.then D (fun q _ h=>((qg o).ge h).1);obtain⟨a5,z,rfl⟩:=m.shape;replace m:qbk N w.heap.size (Value.slice a5 (128::(List.replicate k (0:Int)++[0])).length z) (128::(List.replicate k 0++[0])):=m;rw[←List.replicate_succ'] at m;simp only[List.length_append,List.length_cons,List.length_replicate,List.length_nil,Nat.zero_add] at m ⊢;have v:=qj m;clear m D o;go_wp2;go_roundw
   case rel=>exact⟨k+1,a5,z,rfl,by omega,v,M⟩
   case measure=>simp;omega
  ·obtain rfl:k=qfj n:=by omega
   have y:=q7u n;have R:((((n:Int)+((qfj n:Int)+1))+8)%64 != 0)=false:=by rw[bne_eq_false_iff_eq];omega
   have I:(qfj n:Int)<64:=by omega
   have J:(n:Int)≤1073741824:=by omega
   obtain⟨P,rfl⟩:∃P:World,P=wr:=⟨_,rfl⟩;clear y;go_wp2_with fail
   go_loopw [3,4,17] (fun x _ K wr=>∃(i:Nat) (a:Option Addr) (c:Nat),K = .int .i64 (i:Int)∧i≤8∧x = .slice a (qfj n+1+i) c∧Hid (qbk wr w.heap.size x ((128::List.replicate (qfj n) 0)++(List.range i).map (qt2 n)))∧Upd (fun k=>w.heap.size≤k) w wr) (fun _ _ K _=>8-(intOf K).toNat)
   case atStart=>exact⟨0,_,_,rfl,by omega,rfl,by simpa using o,ur⟩
   case round =>
    obtain⟨i,a,c,rfl,W,rfl,o,ur⟩:=hrel;by_cases C:i<8
    ·have T:(i:Int)<8:=by omega
     have H:=ur.size;go_wp2_with (at_builtin;refine qhp rfl (.tmp 20) (.tmp 28) rfl w.heap.size _ _ rfl _ _ _ rfl (qg o) (by simp;omega) H ?_);intro V N m D;have M:=ur.then D (fun q _ h=>((qg o).ge h).1);obtain⟨a5,z,rfl⟩:=m.shape;have t:(128::(List.replicate (qfj n) (0:Int)++((List.range i).map (qt2 n)++[8*(n:Int) / 2 ^ (56-8*i)%256]))).length=qfj n+1+(i+1):=by simp;omega
     rw[t] at m ⊢;replace m:qbk N w.heap.size (.slice a5 (qfj n+1+(i+1)) z) ((128::List.replicate (qfj n) 0)++(List.range (i+1)).map (qt2 n)):=by
      rw[List.range_succ,List.map_append,←List.append_assoc];have e:(128::List.replicate (qfj n) (0:Int))++(List.range i).map (qt2 n)++[qt2 n i]=128::(List.replicate (qfj n) 0++((List.range i).map (qt2 n)++[8*(n:Int) / 2 ^ (56-8*i)%256])):=by simp[qt2]
      exact e▸m
     clear t;have v:=qj m;clear m D o;go_wp2;go_roundw
     case rel=>exact⟨i+1,a5,z,by go_num,by omega,rfl,v,M⟩
     case measure=>simp[intOf];omega
    ·obtain rfl:i=8:=by omega
     rw[show ((8:Nat):Int)=8 from rfl];have U:=qd3 (qg o);go_wp2;go_ret;exact⟨rfl,ur.below' (Nat.le_refl _) (fun _ h=>h) |> fun h=>Upd.of_below h (Nat.le_refl _)⟩
theorem q7w(s:ByteArray)(w:World)(v:s.size≤1073741824) :
  Calls Tryz.prog 198 #[.string s] w (qar (.string (s++strOfNums (qoo s.size))) w):=by
 have q:(s.size:Int)≤1073741824:=by omega
 have x:=qr6 s.size
 have i:(strOfNums (qoo s.size)).size=qfj s.size+9:=by rw[strOfNums_size,qqr]
 generalize qfj s.size=z at x i
 go_enter Tryz.func198,Tryz.ntmps198
 go_wp2_with fail
 refine(q52 s.size w v).mono ?_
 rintro e w1 ⟨rfl,y⟩
 generalize m:strOfNums (qoo s.size)=t at i ⊢
 have o:=qj m
 clear m
 go_wp2
 go_ret
 exact⟨by rw[qg o];rfl,y⟩
theorem qo8{w:World}{b n:Nat}{A:Array Value}(y:0<n)(x:A.size=n)(h:∀j,j<n→w.cell? ⟨b,j,none⟩=A[j]?):zt w b 0 n=some A:=by
 have m:=h (n-1) (by omega);rw[Array.getElem?_eq_getElem (by omega)] at m;unfold zt;unfold World.cell? at h m;cases o:w.heap[b]? with
 | none=>rw[o] at m;cases m
 | some t =>
  simp only[o] at h m;cases t with
  | cells C T v =>
   simp only at h m ⊢;have z:=(Array.getElem?_eq_some_iff.1 m).1;rw[if_pos (by omega)];congr 1;refine Array.ext_getElem? fun i=> ?_
   rw[Array.getElem?_extract];by_cases q:i<n
   ·rw[if_pos (by omega),Nat.zero_add];exact h i q
   ·rw[if_neg (by omega),Array.getElem?_eq_none (by omega)]
  | _=>cases m
theorem Tabs.row{w:World}(h:Tabs w):zt w 1 0 8=some (qjf.map (Value.int .u32)).toArray:=by
 refine qo8 (by decide) rfl fun j i=> ?_
 rw[h.start j i]
 match j,i with
 | 0,_=>rfl
 | 1,_=>rfl
 | 2,_=>rfl
 | 3,_=>rfl
 | 4,_=>rfl
 | 5,_=>rfl
 | 6,_=>rfl
 | 7,_=>rfl
theorem qnf:qej qjf:=by unfold qej qjf;decide
def qn1(s:ByteArray):ByteArray:=s++strOfNums (qoo s.size)
def qeq(s:ByteArray):List Int:=qhs (ql4 ((qn1 s).size / 64) qjf (qn1 s)) 32
theorem qb9(s:ByteArray):(qeq s).length=32:=qkb _ _
def q8u(x:Value):Sem Value:=Instr.loadAt 35 x
theorem qlm(x:Value):Instr.loadAt 35 x=q8u x:=rfl
theorem q4k(b o:Nat)(w:World):(q8u (.pointer (some ⟨b,o,none⟩))).run Tryz.prog w=match zt w b o 32 with | some A=> .ok (.agg A) w | none=>qc3 Tryz.prog 35 w b o :=
 qag 35 32 _ Tryz.underlying35 rfl Tryz.infoHash b o w
def q85(x v:Value):Sem Unit:=Instr.storeAt 35 x v
theorem qlr(x v:Value):Instr.storeAt 35 x v=q85 x v:=rfl
theorem q5t(b o:Nat)(A:Array Value)(w:World):(q85 (.pointer (some ⟨b,o,none⟩)) (.agg A)).run Tryz.prog w=if stOk w b o 32 A=true then .ok () (w.setCells b o A.toList) else qes Tryz.prog 35 w b o A :=
 qaz 35 32 Tryz.infoHash b o A w
attribute [local go_sem ↓ high] qns qom qlm qlr
attribute [local go_sem] q81 q9b q4k q5t
def zac(i:World)(A:Nat)(r:List Int):Nat→World→Prop
 | 0,w=>qq i w
 | _,w=>Upd (fun k=>k=A) i w∧qbl .u8 w A r
theorem qft(s:ByteArray)(w:World)(hs:s.size≤1000000000)(hT:Tabs w) :
  Calls Tryz.prog 164 #[.string s] w fun e w'=>e = .returned (.agg ((qeq s).map (Value.int .u8)).toArray)∧qq w w':=by
 have hl:(qn1 s).size≤1073741824:=by
  unfold qn1;rw[ByteArray.size_append,strOfNums_size,qqr];have:=qr6 s.size;omega
 have M:=fun W=>q7w s W (by omega)
 have K:=fun W h1=>qvl qjf (qn1 s) W rfl qnf hl h1
 have H:=fun W=>qy9 (ql4 ((qn1 s).size / 64) qjf (qn1 s)) W (qx1 _ _ _ ⟨rfl,qnf⟩).1 (qx1 _ _ _ ⟨rfl,qnf⟩).2
 have m:=qb9 s
 change ∀W,Calls _ _ _ _ (qar (.string (qn1 s)) W) at M
 change ∀W,Calls _ _ _ _ (fun e w'=>e = .returned (.agg ((qeq s).map (Value.int .u8)).toArray)∧qq W w') at H
 have HF:=qj (rfl:qeq s=qeq s)
 go_enter Tryz.func164,Tryz.ntmps164
 go_upto_region 1 with fail
 obtain⟨T0,R⟩:∃T,(w.alloc (.cells #[.int .u8 0,.int .u8 0,.int .u8 0,.int .u8 0,.int .u8 0,.int .u8 0,.int .u8 0,.int .u8 0,.int .u8 0,.int .u8 0,.int .u8 0,.int .u8 0,.int .u8 0,.int .u8 0,.int .u8 0,.int .u8 0,.int .u8 0,.int .u8 0,.int .u8 0,.int .u8 0,.int .u8 0,.int .u8 0,.int .u8 0,.int .u8 0,.int .u8 0,.int .u8 0,.int .u8 0,.int .u8 0,.int .u8 0,.int .u8 0,.int .u8 0,.int .u8 0] 35)).heap[w.heap.size]? = some (.cells ((List.replicate 32 0).map (Value.int .u8)).toArray T (0,0)):=⟨_,ql _ _⟩
 have n0:qq w (w.alloc (.cells #[.int .u8 0,.int .u8 0,.int .u8 0,.int .u8 0,.int .u8 0,.int .u8 0,.int .u8 0,.int .u8 0,.int .u8 0,.int .u8 0,.int .u8 0,.int .u8 0,.int .u8 0,.int .u8 0,.int .u8 0,.int .u8 0,.int .u8 0,.int .u8 0,.int .u8 0,.int .u8 0,.int .u8 0,.int .u8 0,.int .u8 0,.int .u8 0,.int .u8 0,.int .u8 0,.int .u8 0,.int .u8 0,.int .u8 0,.int .u8 0,.int .u8 0,.int .u8 0] 35)):=(Upd.refl _ _).alloc _
 generalize w.alloc (.cells #[.int .u8 0,.int .u8 0,.int .u8 0,.int .u8 0,.int .u8 0,.int .u8 0,.int .u8 0,.int .u8 0,.int .u8 0,.int .u8 0,.int .u8 0,.int .u8 0,.int .u8 0,.int .u8 0,.int .u8 0,.int .u8 0,.int .u8 0,.int .u8 0,.int .u8 0,.int .u8 0,.int .u8 0,.int .u8 0,.int .u8 0,.int .u8 0,.int .u8 0,.int .u8 0,.int .u8 0,.int .u8 0,.int .u8 0,.int .u8 0,.int .u8 0,.int .u8 0] 35)=v at R n0 ⊢
 have x:=m
 have Z:qbl .u8 v w.heap.size (List.replicate 32 0):=⟨T0,R⟩
 have HT:=qj (hT.new n0)
 generalize U:ql4 ((qn1 s).size / 64) qjf (qn1 s)=P at K H
 generalize D:qeq s=t at H m x
 generalize Y:qn1 s=ps at M K hl
 have HP:=qj M
 have HB:=qj K
 have HY:=qj H
 have O:=qj D
 have J:=qj m
 have E:=Z.stOk (r:=t) (n:=32) (by simpa using x) x
 clear M K H U D Y x R hT m HF
 refine qms (by kernel_rfl) [[],[],[(1,4)],[(0,3),(2,5)],[(3,6)],[(4,7)]] 8 rfl (by kernel_rfl) [(0,3),(1,4),(2,5),(3,6),(4,7)] (by kernel_rfl) [5] (by kernel_rfl) [[(0,0)],[(0,0)],[(0,0)],[(0,0)],[(0,0)],[(0,1)]] (by kernel_rfl)
  (zac v w.heap.size t) qcw (isV [.agg (qjf.map (Value.int .u32)).toArray,.string s,.string ps,.agg (P.map (Value.int .u32)).toArray,.agg (t.map (Value.int .u8)).toArray,undef])
  ((Upd.refl _ _).drew) (fun _=>qcw.all _ _) (fun _ _ _ _ _ _ _ _ _ h=>h) ?_ ?_
 ·refine .one rfl ?_ <| .pure rfl (fun _=>qcw.all _ _) rfl ?_ <| .one rfl ?_ <| .one rfl ?_ <| .one rfl ?_ <| .one rfl ?_ <| .nil
  ·intro qz w1 i _;replace i:qq v w1:=i;have x:=((qg HT).new i).row;generalize (qjf.map (Value.int .u32)).toArray=hB at x ⊢;unfold qam;simp only[putL];go_simp;exact⟨qcw.all _ _,i,rfl⟩
  ·intro qz w1 _;unfold qam;simp only[putL];go_simp
   first | exact⟨rfl,rfl⟩ | rfl
  ·rintro qz w1 i ⟨o,-⟩;replace i:qq v w1:=i;replace o:qz 1 = .string s:=o;unfold qam;simp only[putL];go_simp;refine(qg HP w1).mono ?_;rintro e w2 ⟨rfl,I⟩;exact⟨_,rfl,qcw.all _ _,i.trans I,rfl⟩
  ·rintro qz w1 i ⟨o,p1,-⟩;replace i:qq v w1:=i;replace o:qz 0 = .agg (qjf.map (Value.int .u32)).toArray:=o;replace p1:qz 2 = .string ps:=p1;have y:=qj (qg HB w1 ((qg HT).new i));generalize (qjf.map (Value.int .u32)).toArray=hB at o y;unfold qam;simp only[putL];go_simp;refine(qg y).mono ?_;rintro e w2 ⟨rfl,I⟩;exact⟨_,rfl,qcw.all _ _,i.trans I,rfl⟩
  ·rintro qz w1 i ⟨o,-⟩;replace i:qq v w1:=i;replace o:qz 3 = .agg (P.map (Value.int .u32)).toArray:=o;have y:=qj (qg HY w1);generalize (P.map (Value.int .u32)).toArray=hB at o y;unfold qam;simp only[putL];go_simp;refine(qg y).mono ?_;rintro e w2 ⟨rfl,I⟩;exact⟨_,rfl,qcw.all _ _,i.trans I,rfl⟩
  ·rintro qz w1 i ⟨o,-⟩;replace i:qq v w1:=i;replace o:qz 4 = .agg (t.map (Value.int .u8)).toArray:=o;have z:=Z.upd i (fun h=>h);have E:=z.stOk (r:=t) (n:=32) (by simpa using qg J) (qg J);have C:=qj (z.setAll (r:=t) (by simpa using qg J));have N:=qj ((i.mono (T:=fun k=>k=w.heap.size) (fun _ _ h=>h.elim)).then ((Upd.refl (· = w.heap.size) w1).setCells 0 (t.map (Value.int .u8))) (fun _ _ h=>h));have e0:(t.map (Value.int .u8)).toArray.toList=t.map (Value.int .u8):=rfl;generalize X:(t.map (Value.int .u8)).toArray=cs at o E e0;generalize V:t.map (Value.int .u8)=cl at e0 C N;clear X V z;unfold qam;simp only[putL];go_simp;exact⟨qcw.all _ _,⟨qg N,qg C⟩,rfl⟩
 ·intro qz w1 i hv;clear hv;replace i:Upd (fun k=>k=w.heap.size) v w1∧qbl .u8 w1 w.heap.size t:=i;obtain⟨N,T1,z⟩:=i;simp only[putL];have nE:=n0.then N (by intro q hq h;omega);go_wp2_with fail;refine bodyPost_ret (results_cell_row rfl _ _ w.heap.size T1 _ _ _ rfl z Tryz.underlying35 rfl (by rw[List.size_toArray,List.length_map,qg J];exact Tryz.infoHash)) rfl ?_;exact⟨by rw[qg O],nE⟩
end
section
open Go.RowKit
def qir(w:World)(base:Nat)(v:Value)(xs:List Int):Prop :=
 ∃g cap i m,v = .slice (some ⟨g,0,none⟩) xs.length cap∧base≤g∧w.heap[g]? = some (.cells i 5 m)∧(m=(0,0)∨i.size≤m.1)∧xs.length≤cap∧i.size=cap∧i.toList.take xs.length=xs.map (Value.int .u8)
theorem qir.shape{w:World}{base:Nat}{v:Value}{xs:List Int}(h:qir w base v xs):∃a c,v = .slice (some a) xs.length c:=by
 obtain⟨g,cap,i,m,rfl,_⟩:=h;exact⟨_,_,rfl⟩
theorem qir.ge{w:World}{base:Nat}{v:Value}{xs:List Int}(h:qir w base v xs){k:Nat}(i:v.ownBlock=some k):base≤k∧k<w.heap.size:=by
 obtain⟨g,cap,m,t,rfl,o,q,_⟩:=h;simp[Value.ownBlock] at i;subst i;exact⟨o,zi q⟩
theorem qir.upd{S:Nat→Prop}{w w':World}{base:Nat}{v:Value}{xs:List Int}(h:qir w base v xs)(u:Upd S w w')(t:∀k,v.ownBlock=some k→¬S k):qir w' base v xs:=by
 obtain⟨g,cap,i,q,m,o,x,r⟩:=h;exact⟨g,cap,i,q,m,o,u.old x (t g (by rw[m];rfl)),r⟩
section
variable {P:Program}{ops:Array Oper}{rest:List Oper}{o:Oper}{a:Act}{w w':World}{Q:Exit→Act→World→Prop}
theorem qac{v:Value}(m:o.guard=none)(h:(execOp a.eval o).run P w = .ok (.value v) w')(k:wpList P ops Q rest (a.put o.dst v) w'):wpList P ops Q (o::rest) a w :=
 wpList_plain m fun K i=>by
  unfold Oper.wp;rw[h];exact i _ _ k
theorem qdb{f:FuncId}{args:Array Value}(t:o.guard=none)(h:(execOp a.eval o).run P w = .ok (.enter f args) w')
  (k:Calls P f args w' fun e i=>∃v,e = .returned v∧wpList P ops Q rest (a.put o.dst v) i):wpList P ops Q (o::rest) a w :=
 wpList_plain t fun K m=>by
  unfold Oper.wp;rw[h];simp only[Oper.upon];refine k.mono fun e i q=> ?_
  obtain⟨v,rfl,x⟩:=q;exact m _ _ x
end
theorem Upd.setRow{S:Nat→Prop}{a w:World}(h:Upd S a w){g:Nat}(t:g<a.heap.size→S g)(cs:Array Value):Upd S a (w.setRow g cs) :=
 ⟨h.os,h.tape,h.output,by simpa using h.size,fun i m q=>by
  rw[setRow_other _ _ _ _ (show i≠g from fun e=>q (e▸t (e▸m)))];exact h.block i m q⟩
def q97(n:Nat)(i:Nat):List Int:=(List.range i).map fun k=>(n:Int) / 2 ^ (8*(i-1-k))%256
theorem q4x(n i:Nat):(q97 n i).length=i:=by simp[q97]
def zr(n i:Nat):ByteArray:=strOfNums (q97 n i)
theorem qaq(n i:Nat):(zr n i).size=i:=by unfold zr;rw[strOfNums_size,q4x]
def Wr(w:World)(g:Nat)(s:ByteArray):Prop:=w.heap[g]? = some (.cells #[.string s] 174 (0,0))
theorem Wr.new{w w':World}{g:Nat}{s:ByteArray}(h:Wr w g s)(n:qq w w'):Wr w' g s:=n.old h (fun h=>h)
theorem Wr.lt{w:World}{g:Nat}{s:ByteArray}(h:Wr w g s):g<w.heap.size:=zi h
def qfk(w:World)(b:Nat)(ws:List Int):Prop:=∃T,w.heap[b]? = some (.cells (ws.map (Value.int .u8)).toArray T (0,0))
def qr7(n i m:Nat):List Int:=(List.range m).map fun k=>(n:Int) / 2 ^ (8*(i-1-k))%256
theorem qda(g n i:Nat)(s:ByteArray)(w:World)(hg:Wr w g s)(b4:1≤i)(b5:i≤8)(hn:n<2 ^ (8*i))(hs:s.size≤1073741824) :
  Calls Tryz.prog 92 #[.pointer (some ⟨g,0,none⟩),.int .u64 n,.int .i64 i] w fun e w'=>e = .returned (.int .i64 0)∧Upd (fun k=>k=g) w w'∧Wr w' g (s++zr n i):=by
 have t:n<18446744073709551616:=Nat.lt_of_lt_of_le hn (by
  have:(2:Nat) ^ (8*i)≤2 ^ 64:=Nat.pow_le_pow_right (by decide) (by omega);exact this)
 have a1:(n:Int) / 2 ^ (8*i)=0:=by
  refine Int.ediv_eq_zero_of_lt (by omega) ?_;exact_mod_cast hn
 have b0:(1:Int)≤i:=by omega
 have b1:(i:Int)≤8:=by omega
 have a6:(8*(i:Int)).toNat=8*i:=by omega
 have H:decide ((i:Int)<1)=false:=by simp;omega
 have X:decide ((8:Int)<(i:Int))=false:=by simp;omega
 have I:¬(i:Int)<1:=by omega
 have E:¬(8:Int)<(i:Int):=by omega
 have y:(n:Int)<18446744073709551616:=by omega
 go_enter Tryz.func92,Tryz.ntmps92
 go_wp2_with fail
 clear a1 a6 H X I E
 have b2:=hg.lt
 go_loopw [7,8] (fun bv iv wr=>∃(m:Nat) (a:Option Addr) (c:Nat),iv = .int .i64 ((i:Int)-1-(m:Int))∧m≤i∧bv = .slice a m c∧Hid (qbk wr w.heap.size bv (qr7 n i m))∧Upd (fun k=>w.heap.size≤k) w wr) (fun _ iv _=>(intOf iv+1).toNat)
 case atStart=>exact⟨0,_,_,by simp,Nat.zero_le _,rfl,qj (qbk.nil _ _),Upd.refl _ _⟩
 case round =>
  obtain⟨m,a,c,rfl,hm,rfl,P,ur⟩:=hrel;by_cases H:m<i
  ·have b3:(m:Int)<(i:Int):=by omega
   have hb:=ur.size;have ht:(8*((i:Int)-1-(m:Int))).toNat=8*(i-1-m):=by omega
   have Z:∀k:Nat,(n:Int) / 2 ^ k<18446744073709551616∧0≤(n:Int) / 2 ^ k:=fun k=>by
    have Z:(1:Int)≤2 ^ k:=Int.pow_pos (by decide);exact⟨Int.lt_of_le_of_lt (Int.ediv_le_self _ (by omega)) y,Int.ediv_nonneg (by omega) (by omega)⟩
   obtain⟨q1,q0⟩:=Z (8*(i-1-m));have a2:IntKind.u64.wrap ((n:Int) / 2 ^ (8*(i-1-m)))=(n:Int) / 2 ^ (8*(i-1-m)):=by rw[IntKind.wrap_u64];omega
   have a7:=qj (And.intro t y);have K:(qr7 n i m).length≤1073741824:=by simp[qr7];omega
   have M:qr7 n i (m+1)=qr7 n i m++[(n:Int) / 2 ^ (8*(i-1-m))%256]:=by unfold qr7;rw[List.range_succ,List.map_append];rfl
   have v:(qr7 n i (m+1)).length=m+1:=by simp[qr7]
   have z:=qj M;have V:=qj v;have Y:0≤(i:Int)-1-(m:Int):=by omega
   clear Z M v q1 t y;go_wp2_with (at_builtin;refine qhp rfl (.tmp 28) (.tmp 34) rfl w.heap.size _ _ rfl _ _ _ rfl (qg P) K hb ?_);intro v' w5 o u5;have u6:=ur.then u5 (fun q _ h=>((qg P).ge h).1);rw[←qg z] at o;obtain⟨a5,c5,rfl⟩:=o.shape;rw[qg V] at o ⊢;have U:=qj o;clear o u5 P z q0 K ht Y a2;go_wp2;go_roundw
   case rel=>exact⟨m+1,a5,c5,by congr 1;omega,by omega,rfl,U,u6⟩
   case measure=>simp[intOf];omega
  ·obtain rfl:m=i:=by omega
   rw[show (m:Int)-1-(m:Int) = -1 by omega];have O:=qd3 (((qg P).upd ((Upd.refl (fun _=>False) wr).drew) (fun _ _ h=>h)));have x:=ur.old hg (fun h=>by omega);have c0:=qk x 0;have z0:=qo x 0;simp at c0;have J:strOfNums (qr7 n m m)=zr n m:=rfl;rw[J] at O;have hq:=qaq n m;generalize N:zr n m=q at O hq ⊢;have W:=qj N;clear N;have C:=zq x 0 (.string (s++q));have nW:qq w wr:=Upd.of_below (ur.below' (Nat.le_refl _) (fun _ h=>h)) (Nat.le_refl _);have uW:Upd (fun k=>k=g) w (wr.setCell ⟨g,0,none⟩ (.string (s++q))):=(nW.mono (T:=fun k=>k=g) (fun _ _ h=>h.elim)).set1 0 _;have R:=qj C;clear C nW ur;clear J;have a8:¬9223372036854775807<s.size+m:=by omega
   go_wp2_with fail;go_region_law (fail)
   all_goals
    have D:=qg R;generalize wr.setCell ⟨g,0,none⟩ (.string (s++q))=wS at D uW ⊢;go_wp2;go_ret;exact⟨rfl,uW.drew,by rw[qg W];exact D⟩
theorem qfk.drew{w:World}{b:Nat}{ws:List Int}(h:qfk w b ws):qfk w.drew b ws:=h
theorem qcz{w:World}{b:Nat}{xs:List Int}(h:qfk w b xs)(n:Nat)(i:xs.length=n):(convert 95 9 (.slice (some ⟨b,0,none⟩) n n)).run Tryz.prog w = .ok (.string (strOfNums xs)) w:=by
 obtain⟨T,h⟩:=h;exact qdd w 95 9 5 Tryz.underlying95 Tryz.underlying5 Tryz.underlying9 b n xs T (0,0) n i h
theorem qtp(g:Nat)(h:List Int)(s:ByteArray)(w:World)(D:Wr w g s)(E:h.length=32)(P:s.size≤1073741824) :
  Calls Tryz.prog 189 #[.pointer (some ⟨g,0,none⟩),.agg (h.map (Value.int .u8)).toArray] w fun e w'=>e = .returned (.tuple #[])∧Upd (fun k=>k=g) w w'∧Wr w' g (s++strOfNums h):=by
 have O:(strOfNums h).size=32:=by rw[strOfNums_size,E]
 generalize t:(h.map (Value.int .u8)).toArray=I
 go_enter Tryz.func189,Tryz.ntmps189
 go_upto_region 1 with fail
 have C:qfk (w.alloc (.cells I 35)) w.heap.size h:=⟨_,by rw[t];exact ql _ _⟩
 have x:qq w (w.alloc (.cells I 35)):=(Upd.refl _ _).alloc _
 have N:=D.lt
 have i:=D.new x
 generalize w.alloc (.cells I 35)=w1 at C x i ⊢
 have H:=qcz (C.drew) 32 E
 have M:=qk i 0
 have z0:=qo i 0
 simp at M
 generalize v:strOfNums h=q at H O
 have z:=qj v
 have m:=zq i 0 (.string (s++q))
 have K:Upd (fun k=>k=g) w (w1.setCell ⟨g,0,none⟩ (.string (s++q))):=(x.mono (T:=fun k=>k=g) (fun _ _ h=>h.elim)).set1 0 _
 have y:=qj m
 have J:¬9223372036854775807<s.size+32:=by omega
 clear v m x C t i D E
 go_region_law (fail)
 all_goals
  have o:=qg y;generalize w1.setCell ⟨g,0,none⟩ (.string (s++q))=R at o K ⊢;go_end0;exact⟨rfl,K.drew,by rw[qg z];exact o⟩
theorem qe3(g:Nat)(s:ByteArray)(w:World)(i:Wr w g s) :
  Calls Tryz.prog 93 #[.pointer (some ⟨g,0,none⟩)] w fun e w'=>e = .returned (.string s)∧w=w':=by
 have m:=qk i 0
 simp at m
 clear i
 go_enter Tryz.func93,Tryz.ntmps93
 go_wp2
 go_ret
 exact⟨rfl,rfl⟩
end
end Go.Proofs.YtfmkdoachjgjbaaGreatDoor
