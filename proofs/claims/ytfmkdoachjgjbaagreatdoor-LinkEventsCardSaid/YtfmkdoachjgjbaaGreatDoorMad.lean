/-
  Package digest: blocks.
-/
import Derived.Test.YtfmkdoachjgjbaaGreatDoorMac
import Derived.Test.YtfmkdoachjgjbaaGreatDoorRows
import Derived.Test.YtfmkdoachjgjbaaGreatDoorMaa
import Derived.OpenShut
import Derived.Outline
import Derived.Lib.JoinLaws
import Derived.ArgAppend
import Derived.Laws.IdiomStrings
import Derived.Laws.Tables
import Derived.Laws.BitsAllLaws
import Derived.Laws.Bits64
import Derived.IntWalk
import Derived.Deep.CutRange
import Derived.BigRegion
import Derived.Deep.RegionLaw
set_option linter.unusedVariables false
set_option linter.unusedSimpArgs false
namespace Go.Proofs.YtfmkdoachjgjbaaGreatDoor
open Go.RowKit
def qh9:Nat→List Int→ByteArray→List Int
 | 0,h,_=>h
 | n+1,h,s=>qh9 n (qkp h (s.extract 0 64)) (s.extract 64 s.size)
def zaw:Value→Nat
 | .string b=>b.size
 | _=>0
theorem qyo(n:Nat):∀(h:List Int) (s:ByteArray),h.length=8∧qeh h→(qh9 n h s).length=8∧qeh (qh9 n h s):=by
 induction n with
 | zero=>intro h s f;exact f
 | succ n i=>intro h s f;exact i _ _ (qr3 _ _ f)
def zc9(f:World)(A:Nat)(r:List Int):Nat→World→Prop
 | 0,w=>qq f w
 | _,w=>Upd (fun k=>k=A) f w∧qbd .u32 w A r
theorem q09{C:Array Value}{f:List Value}(h:C.size=f.length):qiu C 0 f=f.toArray:=by
 refine Array.ext_getElem? fun i=> ?_
 rw[qgy C 0 f i (by omega)];by_cases v:i<f.length
 ·rw[if_pos (by omega)];simp
 ·have m:C[i]? = none:=Array.getElem?_eq_none (by omega);have q:f.toArray[i]? = none:=Array.getElem?_eq_none (by simp;omega);rw[if_neg (by omega),m,q]
theorem qbd.setAll{k:IntKind}{w:World}{b:Nat}{ws:List Int}(h:qbd k w b ws){r:List Int}(f:r.length=ws.length):qbd k (w.setCells b 0 (r.map (Value.int k))) b r:=by
 obtain⟨T,h⟩:=h;refine⟨T,(qa8 h 0 _).trans ?_⟩;rw[q09 (by simp[f])]
theorem qbd.stOk{k:IntKind}{w:World}{b:Nat}{ws:List Int}(h:qbd k w b ws){r:List Int}{n:Nat}(i:r.length=ws.length)(f:r.length=n):stOk w b 0 n (r.map (Value.int k)).toArray=true:=by
 obtain⟨T,h⟩:=h;refine qdu h (by simp;omega) (by simp;omega) ?_;rw[List.all_toArray,List.all_map,List.all_eq_true];intro x _;rfl
def zcv(x:Value):Sem Value:=Instr.loadAt 295 x
theorem qoq(x:Value):Instr.loadAt 295 x=zcv x:=rfl
theorem zak(b o:Nat)(w:World):(zcv (.pointer (some ⟨b,o,none⟩))).run Tryz.prog w=match zg w b o 8 with | some A=> .ok (.agg A) w | none=>qdh Tryz.prog 295 w b o :=
 qae 295 8 _ Tryz.underlying295 rfl Tryz.infoW8 b o w
def zc1(x v:Value):Sem Unit:=Instr.storeAt 295 x v
theorem qpa(x v:Value):Instr.storeAt 295 x v=zc1 x v:=rfl
theorem zav(b o:Nat)(A:Array Value)(w:World):(zc1 (.pointer (some ⟨b,o,none⟩)) (.agg A)).run Tryz.prog w=if stOk w b o 8 A=true then .ok () (w.setCells b o A.toList) else qed Tryz.prog 295 w b o A :=
 qau 295 8 Tryz.infoW8 b o A w
attribute [local go_sem ↓ high] qoq qpa
attribute [local go_sem] zak zav
set_option maxRecDepth 100000 in
set_option maxHeartbeats 1000000 in
theorem qv4(h:List Int)(s:ByteArray)(w:World)(hh:h.length=8)(hu:qeh h)(hs:s.size≤1073741824)(b6:Tabs w) :
  Calls Tryz.prog 197 #[.agg (h.map (Value.int .u32)).toArray,.string s] w fun e w'=>e = .returned (.agg ((qh9 (s.size / 64) h s).map (Value.int .u32)).toArray)∧qq w w':=by
 have hw:=b6.lt
 obtain⟨h0,h1,h2,h3,h4,h5,h6,h7,rfl⟩:=qb2 hh
 simp only[List.map_cons,List.map_nil]
 go_enter Tryz.func197,Tryz.ntmps197
 go_upto_region 1 with fail
 obtain⟨wA,K⟩:∃wA:World,wA=(w.alloc (.cells #[.int .u32 h0,.int .u32 h1,.int .u32 h2,.int .u32 h3,.int .u32 h4,.int .u32 h5,.int .u32 h6,.int .u32 h7] 295)).alloc (.cells #[.int .u32 0,.int .u32 0,.int .u32 0,.int .u32 0,.int .u32 0,.int .u32 0,.int .u32 0,.int .u32 0] 295):=⟨_,rfl⟩
 have sA:wA.heap.size=w.heap.size+2:=by rw[K];simp
 have nA:qq w wA:=by rw[K];exact((Upd.refl _ _).alloc _).alloc _
 have vA:qbd .u32 wA w.heap.size [h0,h1,h2,h3,h4,h5,h6,h7]:=by rw[K];exact⟨_,qs (qj _ _) _⟩
 have vR:qbd .u32 wA (w.heap.size+1) [0,0,0,0,0,0,0,0]:=by
  rw[K];have:=qj (w.alloc (.cells #[.int .u32 h0,.int .u32 h1,.int .u32 h2,.int .u32 h3,.int .u32 h4,.int .u32 h5,.int .u32 h6,.int .u32 h7] 295)) (.cells #[.int .u32 0,.int .u32 0,.int .u32 0,.int .u32 0,.int .u32 0,.int .u32 0,.int .u32 0,.int .u32 0] 295);rw[World.size_alloc] at this;exact⟨_,this⟩
 rw[←K]
 clear K
 have TA:=b6.new nA
 generalize b5:w.heap.size=A at *
 have b4:=qb b5
 clear b5
 obtain⟨wo,rfl⟩:∃wo:World,wo=wA:=⟨_,rfl⟩
 generalize b7:[h0,h1,h2,h3,h4,h5,h6,h7]=Y at vA hu
 have b8:Y.length=8:=by rw[←b7];rfl
 go_wp2_with fail
 go_loopw [1,10] (fun sv _ wr=>∃(t:ByteArray) (hc:List Int),sv = .string t∧t.size≤s.size∧hc.length=8∧qeh hc∧Hid (qh9 (t.size / 64) hc t=qh9 (s.size / 64) Y s)∧qbd .u32 wr A hc∧Upd (fun k=>k=A) wo wr) (fun sv _ _=>zaw sv)
 case atStart=>exact⟨s,Y,rfl,Nat.le_refl _,b8,hu,qb rfl,vA,Upd.refl _ _⟩
 case round =>
  obtain⟨t,hc,rfl,c8,a7,X,HE,hA,ur⟩:=hrel;obtain⟨L,M,N,O,P,R,S,U,rfl⟩:=qb2 a7;obtain⟨wq,rfl⟩:∃wq:World,wq=wr:=⟨_,rfl⟩;by_cases c6:64≤t.size
  ·have c7:=ur.size;have c0:(t.extract 0 64).size=64:=by rw[ByteArray.size_extract];omega
   have c3:=TA.upd ur (by omega) (by omega);have hC:∀W,qq wq W→_:=fun W n=>qr1 [L,M,N,O,P,R,S,U] (t.extract 0 64) W rfl X c0 (c3.new n)
   have b9:=qr3 [L,M,N,O,P,R,S,U] (t.extract 0 64) ⟨rfl,X⟩;have m:qh9 (t.size / 64) [L,M,N,O,P,R,S,U] t=qh9 ((t.extract 64 t.size).size / 64) (qkp [L,M,N,O,P,R,S,U] (t.extract 0 64)) (t.extract 64 t.size):=by
    obtain⟨n,hn⟩:∃n,t.size / 64=n+1:=⟨t.size / 64-1,by omega⟩;have:(t.extract 64 t.size).size / 64=n:=by rw[ByteArray.size_extract];omega
    rw[hn,this];rfl
   simp only[List.map_cons,List.map_nil] at hC;generalize qkp [L,M,N,O,P,R,S,U] (t.extract 0 64)=r at hC b9 m;obtain⟨r8,c4⟩:=b9;obtain⟨v,z,C,E,F,H,I,J,rfl⟩:=qb2 r8;simp only[List.map_cons,List.map_nil] at hC;have HC:=qb hC;have HN:=qb (m.symm.trans (qa HE));clear hC m HE r8;have HA:=qb hA;clear hA X a7;have t1:(64:Int)≤(t.size:Int):=by omega
   have t2:¬(t.size:Int)<64:=by omega
   go_wp2_with fail;refine qlp (by kernel_rfl) [[],[],[(1,12)],[(0,11),(2,13)],[(3,14)],[(4,10)],[(4,10)],[(5,15)]] 18 rfl (by kernel_rfl) [(0,11),(1,12),(2,13),(3,14),(4,10),(5,15),(6,16)] (by kernel_rfl) [7] (by kernel_rfl) [[(0,0)],[(0,0)],[(0,0)],[(0,0)],[(0,0)],[(0,0)],[(0,0),(1,1)],[(0,1)]] (by kernel_rfl)
    (zc9 wq A [v,z,C,E,F,H,I,J]) qbq
    (isV [.agg #[.int .u32 L,.int .u32 M,.int .u32 N,.int .u32 O,.int .u32 P,.int .u32 R,.int .u32 S,.int .u32 U],.string t,.string (t.extract 0 64),
     .tuple #[.agg #[.int .u32 v,.int .u32 z,.int .u32 C,.int .u32 E,.int .u32 F,.int .u32 H,.int .u32 I,.int .u32 J],.bool true],.tuple #[.agg #[.int .u32 v,.int .u32 z,.int .u32 C,.int .u32 E,.int .u32 F,.int .u32 H,.int .u32 I,.int .u32 J],.bool true],
     .agg #[.int .u32 v,.int .u32 z,.int .u32 C,.int .u32 E,.int .u32 F,.int .u32 H,.int .u32 I,.int .u32 J],.bool true,undef])
    ((Upd.refl _ _).drew) (fun _=>qbq.all _ _) (fun _ _ _ _ _ _ _ _ _ h=>h) ?_ ?_
   ·refine .one rfl ?_ <| .pure rfl (fun _=>qbq.all _ _) rfl ?_ <| .pure rfl (fun _=>qbq.all _ _) rfl ?_ <| .one rfl ?_ <| .pure rfl (fun _=>qbq.all _ _) rfl ?_ <| .pure rfl (fun _=>qbq.all _ _) rfl ?_ <| .pure rfl (fun _=>qbq.all _ _) rfl ?_ <| .one rfl ?_ <| .nil
    ·intro ql w1 i _;replace i:qq wq w1:=i;have hr:=((qa HA).upd i (fun h=>h)).row (n:=8) rfl;simp only[List.map_cons,List.map_nil] at hr;unfold zm;simp only[putL];go_simp;exact⟨qbq.all _ _,i,rfl⟩
    ·intro ql w1 _;unfold zm;simp only[putL];go_simp
     first | exact⟨rfl,rfl⟩ | rfl
    ·rintro ql w1 ⟨f,-⟩;replace f:ql 1 = .string t:=f;unfold zm;simp only[putL];go_simp
     first | exact⟨rfl,rfl⟩ | rfl
    ·rintro ql w1 i ⟨f,p1,-⟩;replace f:ql 0 = .agg #[.int .u32 L,.int .u32 M,.int .u32 N,.int .u32 O,.int .u32 P,.int .u32 R,.int .u32 S,.int .u32 U]:=f;replace p1:ql 2 = .string (t.extract 0 64):=p1;unfold zm;simp only[putL];go_simp;refine(qa HC w1 i).mono ?_;rintro e w2 ⟨rfl,n2⟩;exact⟨_,rfl,qbq.all _ _,Upd.trans i n2,rfl⟩
    ·rintro ql w1 ⟨f,-⟩;replace f:ql 3 = .tuple #[.agg #[.int .u32 v,.int .u32 z,.int .u32 C,.int .u32 E,.int .u32 F,.int .u32 H,.int .u32 I,.int .u32 J],.bool true]:=f;unfold zm;simp only[putL];go_simp
     first | exact⟨rfl,rfl⟩ | rfl
    ·rintro ql w1 ⟨f,-⟩;replace f:ql 4 = .tuple #[.agg #[.int .u32 v,.int .u32 z,.int .u32 C,.int .u32 E,.int .u32 F,.int .u32 H,.int .u32 I,.int .u32 J],.bool true]:=f;unfold zm;simp only[putL];go_simp
     first | exact⟨rfl,rfl⟩ | rfl
    ·rintro ql w1 ⟨f,-⟩;replace f:ql 4 = .tuple #[.agg #[.int .u32 v,.int .u32 z,.int .u32 C,.int .u32 E,.int .u32 F,.int .u32 H,.int .u32 I,.int .u32 J],.bool true]:=f;unfold zm;simp only[putL];go_simp
     first | exact⟨rfl,rfl⟩ | rfl
    ·rintro ql w1 i ⟨f,-⟩;replace i:qq wq w1:=i;replace f:ql 5 = .agg #[.int .u32 v,.int .u32 z,.int .u32 C,.int .u32 E,.int .u32 F,.int .u32 H,.int .u32 I,.int .u32 J]:=f;have hI:=(qa HA).upd i (fun h=>h);have a8:=hI.stOk (r:=[v,z,C,E,F,H,I,J]) (n:=8) rfl rfl;have a6:=hI.setAll (r:=[v,z,C,E,F,H,I,J]) rfl;simp only[List.map_cons,List.map_nil] at a8 a6;have c1:=qb a6;have u1:=((i.mono (T:=fun k=>k=A) (fun _ _ h=>h.elim)).then ((Upd.refl (· = A) w1).setCells 0 [.int .u32 v,.int .u32 z,.int .u32 C,.int .u32 E,.int .u32 F,.int .u32 H,.int .u32 I,.int .u32 J]) (fun _ _ h=>h));have c2:=qb u1;clear a6 u1 hI;unfold zm;simp only[putL];go_simp
     first | exact⟨qbq.all _ _,⟨qa c2,qa c1⟩,rfl⟩ | (trace_state;sorry)
   ·intro ql w1 i Z;have v0:=Z 0 (by decide);have v1:=Z 1 (by decide);have v2:=Z 2 (by decide);have v3:=Z 3 (by decide);have v4:=Z 4 (by decide);have v5:=Z 5 (by decide);have v6:=Z 6 (by decide);clear Z;replace i:Upd (fun k=>k=A) wq w1∧qbd .u32 w1 A [v,z,C,E,F,H,I,J]:=i;obtain⟨u1,hI⟩:=i;have us:=ur.trans u1;simp only[putL,v0,v1,v2,v3,v4,v5,v6];clear HC HA u1 ur v0 v1 v2 v3 v4 v5 v6;obtain⟨wz,rfl⟩:∃wz:World,wz=w1:=⟨_,rfl⟩;have HI:=qb hI;clear hI;go_simp;go_wp2;go_roundw
    case rel=>exact⟨t.extract 64 t.size,[v,z,C,E,F,H,I,J],rfl,by rw[ByteArray.size_extract];omega,rfl,c4,HN,qa HI,us⟩
    case measure=>simp[zaw];omega
  ·have c5:t.size<64:=by omega
   have hz:t.size / 64=0:=by omega
   have V:=qa HE;rw[hz] at V;replace V:=qb (show qh9 (s.size / 64) Y s=[L,M,N,O,P,R,S,U] from V.symm);clear HE hz;have t1:(t.size:Int)<64:=by omega
   have t2:¬(64:Int)≤(t.size:Int):=by omega
   have b3:=vR.upd ur (by omega);have nn:=nA.then ur (by intro q hq h;rw[qa b4] at hq;omega);subst b7;clear vR ur X a7 TA b8 vA;have hr:=hA.row (n:=8) rfl;have a8:=b3.stOk (r:=[L,M,N,O,P,R,S,U]) (n:=8) rfl rfl;have hR:=b3.setAll (r:=[L,M,N,O,P,R,S,U]) rfl;simp only[List.map_cons,List.map_nil] at hr a8 hR;have HR:=qb hR;have u1:=nn.then ((Upd.refl (· = A+1) wq).setCells 0 [.int .u32 L,.int .u32 M,.int .u32 N,.int .u32 O,.int .u32 P,.int .u32 R,.int .u32 S,.int .u32 U]) (by intro q hq h;rw[qa b4] at hq;omega);have HU:=qb u1;clear hA b3 nn hR u1;go_wp2;obtain⟨TF,hF⟩:=qa HR;refine bodyPost_ret (results_cell_row rfl _ _ (A+1) TF _ _ _ rfl hF Tryz.underlying295 rfl (by exact Tryz.infoW8)) rfl ?_;refine⟨?_,qa HU⟩;rw[qa V]
end Go.Proofs.YtfmkdoachjgjbaaGreatDoor
namespace Go.Proofs.YtfmkdoachjgjbaaGreatDoor
open Go.RowKit
theorem Tryz.infoU8:(Tryz.prog.info? 5).map (fun i=>(i.zero,i.size,i.bytes))=some (some (.int .u8 0),1,1):=by kernel_rfl
def qb0(w:World)(base:Nat)(v:Value)(xs:List Int):Prop:=w.ownsRow base 5 1 v xs.length (xs.map (Value.int .u8))
theorem qb0.shape{w:World}{base:Nat}{v:Value}{xs:List Int}(h:qb0 w base v xs):∃a c,v = .slice a xs.length c:=by
 rcases h.2 with ⟨rfl,e⟩ | ⟨g,cap,f,rfl,_⟩
 ·exact⟨none,0,by rw[e]⟩
 ·exact⟨_,_,rfl⟩
theorem qb0.ge{w:World}{base:Nat}{v:Value}{xs:List Int}(h:qb0 w base v xs){k:Nat}(f:v.ownBlock=some k):base≤k∧k<w.heap.size:=by
 rcases h.2 with ⟨rfl,_⟩ | ⟨g,cap,i,rfl,m,q,_⟩
 ·simp[Value.ownBlock] at f
 ·simp[Value.ownBlock] at f;subst f;exact⟨m,zr q⟩
theorem qb0.upd{S:Nat→Prop}{w w':World}{base:Nat}{v:Value}{xs:List Int}(h:qb0 w base v xs)(u:Upd S w w')(q:∀k,v.ownBlock=some k→¬S k):qb0 w' base v xs:=by
 refine⟨h.1,?_⟩;rcases h.2 with h | ⟨g,cap,f,i,m,z,r⟩
 ·exact .inl h
 ·exact .inr ⟨g,cap,f,i,m,u.old z (q g (by rw[i];rfl)),r⟩
theorem qb0.new{w w':World}{base:Nat}{v:Value}{xs:List Int}(h:qb0 w base v xs)(u:qq w w'):qb0 w' base v xs:=h.upd u (fun _ _ h=>h)
theorem qb0.nil(w:World)(base:Nat):qb0 w base (.slice none 0 0) []:=⟨rfl,.inl ⟨rfl,rfl⟩⟩
theorem qb0.made(w:World)(base:Nat)(xs:List Int)(f:base≤w.heap.size)(i:xs.length≤1073741824):qb0 (w.alloc (.cells (xs.map (Value.int .u8)).toArray 5)) base (.slice (some ⟨w.heap.size,0,none⟩) xs.length xs.length) xs:=by
 refine⟨by simp,.inr ⟨w.heap.size,xs.length,_,rfl,f,qj _ _,Nat.le_refl _,by unfold maxLen;omega,by simp,?_⟩⟩;simp;exact List.take_of_length_le (by simp)
theorem qii{q:Array Oper}{rest:List Oper}{o:Oper}{a:Act}{Q:Exit→Act→World→Prop}(C:o.guard=none)(s x:Operand)
  (N:o.op = .call {callee:= .builtin .append,args:=#[s,x],argTypes:=#[95,95]})
  (base:Nat) (v:Value) (xs:List Int) (O:a.eval s=v) (c:Int) (T:TypeId) (w:World) (R:a.eval x = .slice (some ⟨w.heap.size,0,none⟩) 1 1) (m:qb0 w base v xs) (U:xs.length≤1073741824) (S:base≤w.heap.size)
  (h:∀z w',qb0 w' base z (xs++[c])→Upd (fun k=>v.ownBlock=some k) w w'→wpList Tryz.prog q Q rest (a.put o.dst z) w') :
  wpList Tryz.prog q Q (o::rest) a (w.alloc (.cells #[.int .u8 c] T)):=by
 obtain⟨i,L,F,H,I⟩:=info_parts Tryz.infoU8
 have J:(w.alloc (.cells #[.int .u8 c] T)).ownsRow base 5 1 v xs.length (xs.map (Value.int .u8)):=m.new ((Upd.refl _ _).alloc _)
 refine wpList_append_own _ C s x 95 N base 5 i (.int .u8 0) 1 1 Tryz.underlying95 L F H I rfl (by decide) v xs.length _ O J ⟨w.heap.size,0,none⟩ 1 1 [.int .u8 c] R rfl ?_ ?_ (by unfold maxLen;omega) (by omega) (by simp;omega) ?_
 ·intro j u M;have f:(⟨w.heap.size,0,none⟩:Addr).add j=⟨w.heap.size,j,none⟩:=by unfold Addr.add;split<;>simp_all
  rw[f,qg (qj _ _)];simpa using M
 ·intro u P;obtain rfl:=List.mem_singleton.1 P;rfl
 ·intro z w' E K _;refine h z w' ?_ ((((Upd.refl _ w).alloc _)).grown K (fun k e _=>e));unfold qb0;rw[List.length_append,List.map_append];exact E
theorem qi1{w:World}{base:Nat}{v:Value}{xs:List Int}(h:qb0 w base v xs):(convert 95 9 v).run Tryz.prog w = .ok (.string (strOfNums xs)) w:=by
 rcases h.2 with ⟨rfl,e⟩ | ⟨g,cap,f,rfl,E,C,F,H,I,q⟩
 ·rw[List.eq_nil_of_length_eq_zero e];exact run_convert_bytes_nil w 95 5 Tryz.underlying95 Tryz.underlying5 0 0 9 Tryz.underlying9
 ·refine run_convert_bytes_arg w 95 5 Tryz.underlying95 Tryz.underlying5 g 0 xs.length cap xs rfl (fun i m=> ?_) 9 Tryz.underlying9;have z:f.toList[i]? = (xs.map (Value.int .u8))[i]? := by rw[←q,List.getElem?_take_of_lt (by omega)]
  rw[Nat.zero_add,qg C i,←Array.getElem?_toList,z,List.getElem?_map,List.getElem?_eq_getElem m];simp[List.getD,List.getElem?_eq_getElem m]
def qc7(n:Nat):Nat:=(119-n%64)%64
theorem qk7(n:Nat):qc7 n<64:=Nat.mod_lt _ (by decide)
theorem q9d(n k:Nat)(h:k<qc7 n):(n+(k+1)+8)%64≠0:=by unfold qc7 at h;omega
theorem qy6(n:Nat):(n+(qc7 n+1)+8)%64=0:=by unfold qc7;omega
def qiw(n i:Nat):Int:=(8*n:Int) / 2 ^ (56-8*i)%256
def qmz(n:Nat):List Int:=(128::List.replicate (qc7 n) 0)++(List.range 8).map (qiw n)
theorem ql5(n:Nat):(qmz n).length=qc7 n+9:=by simp[qmz]
set_option maxRecDepth 100000 in
set_option maxHeartbeats 1000000 in
theorem q7l(n:Nat)(w:World)(hn:n≤1073741824) :
  Calls Tryz.prog 213 #[.int .u64 n] w (qa5 (.string (strOfNums (qmz n))) w):=by
 have hz:=qk7 n
 go_enter Tryz.func213,Tryz.ntmps213
 go_wp2_with fail
 have K:=qb0.made w w.heap.size [128] (Nat.le_refl _) (by decide)
 have S:Upd (fun k=>w.heap.size≤k) w (w.alloc (.cells #[.int .u8 128] 5)):=(Upd.refl _ _).alloc _
 simp only[List.map_cons,List.map_nil,List.length_cons,List.length_nil,Nat.zero_add] at K
 generalize w.alloc (.cells #[.int .u8 128] 5)=wa at K S ⊢
 have m:=qb K
 clear K
 go_loopw [3] (fun C wr=>∃(k:Nat) (a:Option Addr) (c:Nat),C = .slice a (k+1) c∧k≤qc7 n∧Hid (qb0 wr w.heap.size C (128::List.replicate k 0))∧Upd (fun k=>w.heap.size≤k) w wr) (fun C _=>100-(match C with | .slice _ l _=>l | _=>0))
 case atStart=>exact⟨0,_,_,rfl,Nat.zero_le _,m,S⟩
 case round =>
  obtain⟨k,a,c,rfl,Z,m,F⟩:=hrel;by_cases I:k<qc7 n
  ·have E:=q9d n k I;have U:((((n:Int)+((k:Int)+1))+8)%64 != 0)=true:=by rw[bne_iff_ne];omega
   have M:(k:Int)<64:=by omega
   have N:(n:Int)≤1073741824:=by omega
   have L:=F.size;clear E;go_wp2_with (at_builtin;refine qii rfl (.tmp 14) (.tmp 15) rfl w.heap.size _ _ rfl 0 _ _ rfl (qa m) (by simp;omega) L ?_);intro X R f J;have P:=F.then J (fun q _ h=>((qa m).ge h).1);obtain⟨a5,H,rfl⟩:=f.shape;replace f:qb0 R w.heap.size (Value.slice a5 (128::(List.replicate k (0:Int)++[0])).length H) (128::(List.replicate k 0++[0])):=f;rw[←List.replicate_succ'] at f;simp only[List.length_append,List.length_cons,List.length_replicate,List.length_nil,Nat.zero_add] at f ⊢;have z:=qb f;clear f J m;go_wp2;go_roundw
   case rel=>exact⟨k+1,a5,H,rfl,by omega,z,P⟩
   case measure=>simp;omega
  ·obtain rfl:k=qc7 n:=by omega
   have E:=qy6 n;have U:((((n:Int)+((qc7 n:Int)+1))+8)%64 != 0)=false:=by rw[bne_eq_false_iff_eq];omega
   have M:(qc7 n:Int)<64:=by omega
   have N:(n:Int)≤1073741824:=by omega
   obtain⟨T,rfl⟩:∃T:World,T=wr:=⟨_,rfl⟩;clear E;go_wp2_with fail
   go_loopw [3,4,17] (fun C _ O wr=>∃(i:Nat) (a:Option Addr) (c:Nat),O = .int .i64 (i:Int)∧i≤8∧C = .slice a (qc7 n+1+i) c∧Hid (qb0 wr w.heap.size C ((128::List.replicate (qc7 n) 0)++(List.range i).map (qiw n)))∧Upd (fun k=>w.heap.size≤k) w wr) (fun _ _ O _=>8-(intOf O).toNat)
   case atStart=>exact⟨0,_,_,rfl,by omega,rfl,by simpa using m,F⟩
   case round =>
    obtain⟨i,a,c,rfl,Y,rfl,m,F⟩:=hrel;by_cases I:i<8
    ·have V:(i:Int)<8:=by omega
     have L:=F.size;go_wp2_with (at_builtin;refine qii rfl (.tmp 20) (.tmp 28) rfl w.heap.size _ _ rfl _ _ _ rfl (qa m) (by simp;omega) L ?_);intro X R f J;have P:=F.then J (fun q _ h=>((qa m).ge h).1);obtain⟨a5,H,rfl⟩:=f.shape;have v:(128::(List.replicate (qc7 n) (0:Int)++((List.range i).map (qiw n)++[8*(n:Int) / 2 ^ (56-8*i)%256]))).length=qc7 n+1+(i+1):=by simp;omega
     rw[v] at f ⊢;replace f:qb0 R w.heap.size (.slice a5 (qc7 n+1+(i+1)) H) ((128::List.replicate (qc7 n) 0)++(List.range (i+1)).map (qiw n)):=by
      rw[List.range_succ,List.map_append,←List.append_assoc];have e:(128::List.replicate (qc7 n) (0:Int))++(List.range i).map (qiw n)++[qiw n i]=128::(List.replicate (qc7 n) 0++((List.range i).map (qiw n)++[8*(n:Int) / 2 ^ (56-8*i)%256])):=by simp[qiw]
      exact e▸f
     clear v;have z:=qb f;clear f J m;go_wp2;go_roundw
     case rel=>exact⟨i+1,a5,H,by go_num,by omega,rfl,z,P⟩
     case measure=>simp[intOf];omega
    ·obtain rfl:i=8:=by omega
     rw[show ((8:Nat):Int)=8 from rfl];have W:=qi1 (qa m);go_wp2;go_ret;exact⟨rfl,F.below' (Nat.le_refl _) (fun _ h=>h) |> fun h=>Upd.of_below h (Nat.le_refl _)⟩
set_option maxHeartbeats 1000000 in
theorem q9e(s:ByteArray)(w:World)(v:s.size≤1073741824) :
  Calls Tryz.prog 198 #[.string s] w (qa5 (.string (s++strOfNums (qmz s.size))) w):=by
 have q:(s.size:Int)≤1073741824:=by omega
 have C:=qk7 s.size
 have f:(strOfNums (qmz s.size)).size=qc7 s.size+9:=by rw[strOfNums_size,ql5]
 generalize qc7 s.size=z at C f
 go_enter Tryz.func198,Tryz.ntmps198
 go_wp2_with fail
 refine(q7l s.size w v).mono ?_
 rintro e w1 ⟨rfl,E⟩
 generalize i:strOfNums (qmz s.size)=t at f ⊢
 have m:=qb i
 clear i
 go_wp2
 go_ret
 exact⟨by rw[qa m];rfl,E⟩
theorem qpt{w:World}{b n:Nat}{A:Array Value}(E:0<n)(z:A.size=n)(h:∀j,j<n→w.cell? ⟨b,j,none⟩=A[j]?):zg w b 0 n=some A:=by
 have f:=h (n-1) (by omega);rw[Array.getElem?_eq_getElem (by omega)] at f;unfold zg;unfold World.cell? at h f;cases m:w.heap[b]? with
 | none=>rw[m] at f;cases f
 | some ob =>
  simp only[m] at h f;cases ob with
  | cells C T v =>
   simp only at h f ⊢;have F:=(Array.getElem?_eq_some_iff.1 f).1;rw[if_pos (by omega)];congr 1;refine Array.ext_getElem? fun i=> ?_
   rw[Array.getElem?_extract];by_cases q:i<n
   ·rw[if_pos (by omega),Nat.zero_add];exact h i q
   ·rw[if_neg (by omega),Array.getElem?_eq_none (by omega)]
  | _=>cases f
theorem Tabs.row{w:World}(h:Tabs w):zg w 1 0 8=some (qhp.map (Value.int .u32)).toArray:=by
 refine qpt (by decide) rfl fun j f=> ?_
 rw[h.start j f]
 match j,f with
 | 0,_=>rfl
 | 1,_=>rfl
 | 2,_=>rfl
 | 3,_=>rfl
 | 4,_=>rfl
 | 5,_=>rfl
 | 6,_=>rfl
 | 7,_=>rfl
theorem qkv:qeh qhp:=by unfold qeh qhp;decide
def qg5(s:ByteArray):ByteArray:=s++strOfNums (qmz s.size)
def qef(s:ByteArray):List Int:=qfs (qh9 ((qg5 s).size / 64) qhp (qg5 s)) 32
theorem qb5(s:ByteArray):(qef s).length=32:=qgp _ _
def zac(x:Value):Sem Value:=Instr.loadAt 35 x
theorem qiv(x:Value):Instr.loadAt 35 x=zac x:=rfl
theorem qw9(b o:Nat)(w:World):(zac (.pointer (some ⟨b,o,none⟩))).run Tryz.prog w=match zg w b o 32 with | some A=> .ok (.agg A) w | none=>qdh Tryz.prog 35 w b o :=
 qae 35 32 _ Tryz.underlying35 rfl Tryz.infoHash b o w
def zan(x v:Value):Sem Unit:=Instr.storeAt 35 x v
theorem qi3(x v:Value):Instr.storeAt 35 x v=zan x v:=rfl
theorem qx4(b o:Nat)(A:Array Value)(w:World):(zan (.pointer (some ⟨b,o,none⟩)) (.agg A)).run Tryz.prog w=if stOk w b o 32 A=true then .ok () (w.setCells b o A.toList) else qed Tryz.prog 35 w b o A :=
 qau 35 32 Tryz.infoHash b o A w
attribute [local go_sem ↓ high] qoq qpa qiv qi3
attribute [local go_sem] zak zav qw9 qx4
def zb5(f:World)(A:Nat)(r:List Int):Nat→World→Prop
 | 0,w=>qq f w
 | _,w=>Upd (fun k=>k=A) f w∧qbd .u8 w A r
set_option maxRecDepth 100000 in
set_option maxHeartbeats 1000000 in
theorem qgg(s:ByteArray)(w:World)(hs:s.size≤1000000000)(hT:Tabs w) :
  Calls Tryz.prog 164 #[.string s] w fun e w'=>e = .returned (.agg ((qef s).map (Value.int .u8)).toArray)∧qq w w':=by
 have hl:(qg5 s).size≤1073741824:=by
  unfold qg5;rw[ByteArray.size_append,strOfNums_size,ql5];have:=qk7 s.size;omega
 have O:=fun W=>q9e s W (by omega)
 have N:=fun W h1=>qv4 qhp (qg5 s) W rfl qkv hl h1
 have K:=fun W=>qzx (qh9 ((qg5 s).size / 64) qhp (qg5 s)) W (qyo _ _ _ ⟨rfl,qkv⟩).1 (qyo _ _ _ ⟨rfl,qkv⟩).2
 have i:=qb5 s
 change ∀W,Calls _ _ _ _ (qa5 (.string (qg5 s)) W) at O
 change ∀W,Calls _ _ _ _ (fun e w'=>e = .returned (.agg ((qef s).map (Value.int .u8)).toArray)∧qq W w') at K
 have HF:=qb (rfl:qef s=qef s)
 go_enter Tryz.func164,Tryz.ntmps164
 go_upto_region 1 with fail
 obtain⟨T0,U⟩:∃T,(w.alloc (.cells #[.int .u8 0,.int .u8 0,.int .u8 0,.int .u8 0,.int .u8 0,.int .u8 0,.int .u8 0,.int .u8 0,.int .u8 0,.int .u8 0,.int .u8 0,.int .u8 0,.int .u8 0,.int .u8 0,.int .u8 0,.int .u8 0,.int .u8 0,.int .u8 0,.int .u8 0,.int .u8 0,.int .u8 0,.int .u8 0,.int .u8 0,.int .u8 0,.int .u8 0,.int .u8 0,.int .u8 0,.int .u8 0,.int .u8 0,.int .u8 0,.int .u8 0,.int .u8 0] 35)).heap[w.heap.size]? = some (.cells ((List.replicate 32 0).map (Value.int .u8)).toArray T (0,0)):=⟨_,qj _ _⟩
 have n0:qq w (w.alloc (.cells #[.int .u8 0,.int .u8 0,.int .u8 0,.int .u8 0,.int .u8 0,.int .u8 0,.int .u8 0,.int .u8 0,.int .u8 0,.int .u8 0,.int .u8 0,.int .u8 0,.int .u8 0,.int .u8 0,.int .u8 0,.int .u8 0,.int .u8 0,.int .u8 0,.int .u8 0,.int .u8 0,.int .u8 0,.int .u8 0,.int .u8 0,.int .u8 0,.int .u8 0,.int .u8 0,.int .u8 0,.int .u8 0,.int .u8 0,.int .u8 0,.int .u8 0,.int .u8 0] 35)):=(Upd.refl _ _).alloc _
 generalize w.alloc (.cells #[.int .u8 0,.int .u8 0,.int .u8 0,.int .u8 0,.int .u8 0,.int .u8 0,.int .u8 0,.int .u8 0,.int .u8 0,.int .u8 0,.int .u8 0,.int .u8 0,.int .u8 0,.int .u8 0,.int .u8 0,.int .u8 0,.int .u8 0,.int .u8 0,.int .u8 0,.int .u8 0,.int .u8 0,.int .u8 0,.int .u8 0,.int .u8 0,.int .u8 0,.int .u8 0,.int .u8 0,.int .u8 0,.int .u8 0,.int .u8 0,.int .u8 0,.int .u8 0] 35)=z at U n0 ⊢
 have C:=i
 have H0:qbd .u8 z w.heap.size (List.replicate 32 0):=⟨T0,U⟩
 have HT:=qb (hT.new n0)
 generalize V:qh9 ((qg5 s).size / 64) qhp (qg5 s)=S at N K
 generalize I:qef s=v at K i C
 generalize Z:qg5 s=ps at O N hl
 have HP:=qb O
 have HB:=qb N
 have HY:=qb K
 have R:=qb I
 have M:=qb i
 have J:=H0.stOk (r:=v) (n:=32) (by simpa using C) C
 clear O N K V I Z C U hT i HF
 refine qlp (by kernel_rfl) [[],[],[(1,4)],[(0,3),(2,5)],[(3,6)],[(4,7)]] 8 rfl (by kernel_rfl) [(0,3),(1,4),(2,5),(3,6),(4,7)] (by kernel_rfl) [5] (by kernel_rfl) [[(0,0)],[(0,0)],[(0,0)],[(0,0)],[(0,0)],[(0,1)]] (by kernel_rfl)
  (zb5 z w.heap.size v) qbq (isV [.agg (qhp.map (Value.int .u32)).toArray,.string s,.string ps,.agg (S.map (Value.int .u32)).toArray,.agg (v.map (Value.int .u8)).toArray,undef])
  ((Upd.refl _ _).drew) (fun _=>qbq.all _ _) (fun _ _ _ _ _ _ _ _ _ h=>h) ?_ ?_
 ·refine .one rfl ?_ <| .pure rfl (fun _=>qbq.all _ _) rfl ?_ <| .one rfl ?_ <| .one rfl ?_ <| .one rfl ?_ <| .one rfl ?_ <| .nil
  ·intro ql w1 f _;replace f:qq z w1:=f;have C:=((qa HT).new f).row;generalize (qhp.map (Value.int .u32)).toArray=hB at C ⊢;unfold zm;simp only[putL];go_simp;exact⟨qbq.all _ _,f,rfl⟩
  ·intro ql w1 _;unfold zm;simp only[putL];go_simp
   first | exact⟨rfl,rfl⟩ | rfl
  ·rintro ql w1 f ⟨m,-⟩;replace f:qq z w1:=f;replace m:ql 1 = .string s:=m;unfold zm;simp only[putL];go_simp;refine(qa HP w1).mono ?_;rintro e w2 ⟨rfl,L⟩;exact⟨_,rfl,qbq.all _ _,f.trans L,rfl⟩
  ·rintro ql w1 f ⟨m,p1,-⟩;replace f:qq z w1:=f;replace m:ql 0 = .agg (qhp.map (Value.int .u32)).toArray:=m;replace p1:ql 2 = .string ps:=p1;have E:=qb (qa HB w1 ((qa HT).new f));generalize (qhp.map (Value.int .u32)).toArray=hB at m E;unfold zm;simp only[putL];go_simp;refine(qa E).mono ?_;rintro e w2 ⟨rfl,L⟩;exact⟨_,rfl,qbq.all _ _,f.trans L,rfl⟩
  ·rintro ql w1 f ⟨m,-⟩;replace f:qq z w1:=f;replace m:ql 3 = .agg (S.map (Value.int .u32)).toArray:=m;have E:=qb (qa HY w1);generalize (S.map (Value.int .u32)).toArray=hB at m E;unfold zm;simp only[putL];go_simp;refine(qa E).mono ?_;rintro e w2 ⟨rfl,L⟩;exact⟨_,rfl,qbq.all _ _,f.trans L,rfl⟩
  ·rintro ql w1 f ⟨m,-⟩;replace f:qq z w1:=f;replace m:ql 4 = .agg (v.map (Value.int .u8)).toArray:=m;have F:=H0.upd f (fun h=>h);have J:=F.stOk (r:=v) (n:=32) (by simpa using qa M) (qa M);have H:=qb (F.setAll (r:=v) (by simpa using qa M));have P:=qb ((f.mono (T:=fun k=>k=w.heap.size) (fun _ _ h=>h.elim)).then ((Upd.refl (· = w.heap.size) w1).setCells 0 (v.map (Value.int .u8))) (fun _ _ h=>h));have e0:(v.map (Value.int .u8)).toArray.toList=v.map (Value.int .u8):=rfl;generalize Y:(v.map (Value.int .u8)).toArray=cs at m J e0;generalize X:v.map (Value.int .u8)=cl at e0 H P;clear Y X F;unfold zm;simp only[putL];go_simp;exact⟨qbq.all _ _,⟨qa P,qa H⟩,rfl⟩
 ·intro ql w1 f hv;clear hv;replace f:Upd (fun k=>k=w.heap.size) z w1∧qbd .u8 w1 w.heap.size v:=f;obtain⟨P,T1,F⟩:=f;simp only[putL];have nE:=n0.then P (by intro q hq h;omega);go_wp2_with fail;refine bodyPost_ret (results_cell_row rfl _ _ w.heap.size T1 _ _ _ rfl F Tryz.underlying35 rfl (by rw[List.size_toArray,List.length_map,qa M];exact Tryz.infoHash)) rfl ?_;exact⟨by rw[qa R],nE⟩
end Go.Proofs.YtfmkdoachjgjbaaGreatDoor
namespace Go.Proofs.YtfmkdoachjgjbaaGreatDoor
open Go.RowKit
def qdc(w:World)(base:Nat)(v:Value)(xs:List Int):Prop :=
 ∃g cap f i,v = .slice (some ⟨g,0,none⟩) xs.length cap∧base≤g∧w.heap[g]? = some (.cells f 5 i)∧(i=(0,0)∨f.size≤i.1)∧xs.length≤cap∧f.size=cap∧f.toList.take xs.length=xs.map (Value.int .u8)
theorem qdc.shape{w:World}{base:Nat}{v:Value}{xs:List Int}(h:qdc w base v xs):∃a c,v = .slice (some a) xs.length c:=by
 obtain⟨g,cap,f,i,rfl,_⟩:=h;exact⟨_,_,rfl⟩
theorem qdc.ge{w:World}{base:Nat}{v:Value}{xs:List Int}(h:qdc w base v xs){k:Nat}(f:v.ownBlock=some k):base≤k∧k<w.heap.size:=by
 obtain⟨g,cap,i,z,rfl,m,q,_⟩:=h;simp[Value.ownBlock] at f;subst f;exact⟨m,zr q⟩
theorem qdc.upd{S:Nat→Prop}{w w':World}{base:Nat}{v:Value}{xs:List Int}(h:qdc w base v xs)(u:Upd S w w')(z:∀k,v.ownBlock=some k→¬S k):qdc w' base v xs:=by
 obtain⟨g,cap,f,q,i,m,C,r⟩:=h;exact⟨g,cap,f,q,i,m,u.old C (z g (by rw[i];rfl)),r⟩
theorem qdc.ofO{w:World}{base:Nat}{v:Value}{xs:List Int}(h:qb0 w base v xs)(F:0<xs.length):qdc w base v xs:=by
 rcases h.2 with ⟨rfl,e⟩ | ⟨g,cap,f,rfl,i,z,m,C,E,q⟩
 ·omega
 ·exact⟨g,cap,f,(0,0),rfl,i,z,.inl rfl,m,by omega,by simpa using q⟩
def qc3(s:ByteArray):List Int:=s.data.toList.map fun c=>(c.toNat:Int)
theorem qj2(s:ByteArray):(qc3 s).length=s.size:=by
 unfold qc3;rw[List.length_map,Array.length_toList];rfl
theorem qdc.ofS(w:World)(s:ByteArray)(cap base:Nat)(i:base≤w.heap.size)(m:s.size≤cap) :
  qdc (w.drew.alloc (.cells (bytesRow s cap) 5 ((bytesRow s cap).size,(bytesRow s cap).size+1))) base (.slice (some ⟨w.heap.size,0,none⟩) s.size cap) (qc3 s):=by
 have f:(bytesRow s cap).size=cap:=by
  unfold bytesRow;have:s.data.size=s.size:=rfl;simp;omega
 refine⟨w.heap.size,cap,bytesRow s cap,((bytesRow s cap).size,(bytesRow s cap).size+1),by rw[qj2],i,?_,.inr (Nat.le_refl _),by rw[qj2];exact m,f,?_⟩
 ·exact qj w.drew _
 ·unfold bytesRow qc3;rw[Array.toList_append,List.take_append_of_le_length (by simp)];simp;rw[List.take_of_length_le (by simp)];rfl
theorem qhi{N:Array Oper}{rest:List Oper}{o:Oper}{a:Act}{Q:Exit→Act→World→Prop}(K:o.guard=none)(s x:Operand)
  (ho:o.op = .call {callee:= .builtin .append,args:=#[s,x],argTypes:=#[95,95]})
  (base:Nat) (v:Value) (xs:List Int) (hs:a.eval s=v) (c:Int) (T:TypeId) (w:World) (hx:a.eval x = .slice (some ⟨w.heap.size,0,none⟩) 1 1) (M:qdc w base v xs) (hl:xs.length≤1073741824) (hb:base≤w.heap.size)
  (h:∀P w',qdc w' base P (xs++[c])→Upd (fun k=>v.ownBlock=some k) w w'→wpList Tryz.prog N Q rest (a.put o.dst P) w') :
  wpList Tryz.prog N Q (o::rest) a (w.alloc (.cells #[.int .u8 c] T)):=by
 obtain⟨i,hi,Y,m,Z⟩:=info_parts Tryz.infoU8
 obtain⟨g,cap,f,R,rfl,e2,hg,O,e3,e4,e6⟩:=M
 have C:(w.alloc (.cells #[.int .u8 c] T)).heap[g]? = some (.cells f 5 R):=qs hg _
 have F:∀j u,[Value.int .u8 c][j]? = some u→(w.alloc (.cells #[.int .u8 c] T)).cell? ((⟨w.heap.size,0,none⟩:Addr).add j)=some u:=by
  intro j u E;have q:(⟨w.heap.size,0,none⟩:Addr).add j=⟨w.heap.size,j,none⟩:=by unfold Addr.add;split<;>simp_all
  rw[q,qg (qj _ _)];simpa using E
 have H:∀u∈[Value.int .u8 c],u.oneCell'=true:=by
  intro u hu;obtain rfl:=List.mem_singleton.1 hu;rfl
 by_cases z:xs.length+1≤cap
 ·refine wpList_append_room_src _ K s x 95 95 ho 5 i Tryz.underlying95 hi g 0 xs.length cap hs _ hx 1 [.int .u8 c] (Src.ofSlice _ Tryz.underlying95 ⟨w.heap.size,0,none⟩ 1 1 _ (by rw[m];rfl) F H) z ?_ ?_ ?_
  ·intro j E;rw[qg C];simp only[List.length_cons,List.length_nil] at E;rw[Array.getElem?_eq_getElem (by rw[m];omega)];rfl
  ·intro j E;simp only[List.length_cons,List.length_nil] at E;have a7:0+xs.length*i.size+j<f.size:=by rw[m];omega
   unfold World.frozen?;rw[C];rcases O with rfl | O
   ·simp
   ·obtain⟨lo,a6⟩:=R;simp only at O ⊢;rw[show decide (lo≤0+xs.length*i.size+j)=false by simpa using by omega];rfl
  ·refine h _ _ ⟨g,cap,f.setIfInBounds xs.length (.int .u8 c),R,by simp,e2,?_,by simpa using O,by simpa using z,by simpa using e4,?_⟩ ?_
   ·have:=zv C (0+xs.length*i.size) (.int .u8 c);rw[show 0+xs.length*i.size=xs.length by rw[m];omega] at this;simpa [World.setCells,m] using this
   ·rw[List.length_append,List.map_append,Array.toList_setIfInBounds];simp only[List.length_cons,List.length_nil,List.map_cons,List.map_nil,Nat.zero_add];have X:xs.length<f.toList.length:=by
     have h9:f.toList.length=f.size:=Array.length_toList;omega
    rw[List.take_add_one,List.take_set_of_le (Nat.le_refl _),e6,List.getElem?_set_self X];rfl
   ·have u0:Upd (fun k=>(Value.slice (some ⟨g,0,none⟩) xs.length cap).ownBlock=some k) w (w.alloc (.cells #[.int .u8 c] T)):=(Upd.refl _ _).alloc _;simp only[World.setCells];exact u0.setCell (p:=⟨g,0+xs.length*i.size,none⟩) (fun _=>rfl) _
 ·refine wpList_append_grows _ K s x 95 ho 5 i (.int .u8 0) 1 1 Tryz.underlying95 hi Y m Z rfl (by decide) (some ⟨g,0,none⟩) xs.length cap (xs.map (Value.int .u8)) hs (fun h=>by cases h) (by simp) ?_ ⟨w.heap.size,0,none⟩ 1 1 [.int .u8 c] hx rfl F H (by omega) (by unfold maxLen;omega) (by omega) ?_
  ·intro b U j u E;obtain rfl:(⟨g,0,none⟩:Addr)=b:=Option.some.inj U;have W:j<xs.length:=by
    have:=(List.getElem?_eq_some_iff.1 E).1;simpa using this
   have q:(⟨g,0,none⟩:Addr).add j=⟨g,j,none⟩:=by unfold Addr.add;split<;>simp_all
   rw[q,qg C,←Array.getElem?_toList];rw[←e6,List.getElem?_take_of_lt W] at E;exact E
  ·intro P w' L V;refine h P w' (qdc.ofO (xs:=xs++[c]) ?_ (by simp)) ((((Upd.refl _ w).alloc _)).grown V (fun k e _=>by cases e));unfold qb0;rw[List.length_append,List.map_append];refine⟨L.1,?_⟩;rcases L.2 with S | ⟨g2,I,J,h1,S,h3⟩
   ·exact .inl S
   ·exact .inr ⟨g2,I,J,h1,by simp at S;omega,h3⟩
theorem qst{w:World}{base:Nat}{v:Value}{xs:List Int}(h:qdc w base v xs):(convert 95 9 v).run Tryz.prog w = .ok (.string (strOfNums xs)) w:=by
 obtain⟨g,cap,f,I,rfl,E,C,J,F,H,q⟩:=h;refine run_convert_bytes_arg w 95 5 Tryz.underlying95 Tryz.underlying5 g 0 xs.length cap xs rfl (fun i m=> ?_) 9 Tryz.underlying9;have z:f.toList[i]? = (xs.map (Value.int .u8))[i]? := by rw[←q,List.getElem?_take_of_lt (by omega)]
 rw[Nat.zero_add,qg C i,←Array.getElem?_toList,z,List.getElem?_map,List.getElem?_eq_getElem m];simp[List.getD,List.getElem?_eq_getElem m]
section
variable {P:Program}{ops:Array Oper}{rest:List Oper}{o:Oper}{a:Act}{w w':World}{Q:Exit→Act→World→Prop}
theorem zi{v:Value}(i:o.guard=none)(h:(execOp a.eval o).run P w = .ok (.value v) w')(k:wpList P ops Q rest (a.put o.dst v) w'):wpList P ops Q (o::rest) a w :=
 wpList_plain i fun K f=>by
  unfold Oper.wp;rw[h];exact f _ _ k
theorem qdb{f:FuncId}{args:Array Value}(z:o.guard=none)(h:(execOp a.eval o).run P w = .ok (.enter f args) w')
  (k:Calls P f args w' fun e i=>∃v,e = .returned v∧wpList P ops Q rest (a.put o.dst v) i):wpList P ops Q (o::rest) a w :=
 wpList_plain z fun K m=>by
  unfold Oper.wp;rw[h];simp only[Oper.upon];refine k.mono fun e i q=> ?_
  obtain⟨v,rfl,C⟩:=q;exact m _ _ C
end
theorem Upd.setRow{S:Nat→Prop}{a w:World}(h:Upd S a w){g:Nat}(q:g<a.heap.size→S g)(cs:Array Value):Upd S a (w.setRow g cs) :=
 ⟨h.os,h.tape,h.output,by simpa using h.size,fun i f m=>by
  rw[setRow_other _ _ _ _ (show i≠g from fun e=>m (e▸q (e▸f)))];exact h.block i f m⟩
def q88(n:Nat)(f:Nat):List Int:=(List.range f).map fun k=>(n:Int) / 2 ^ (8*(f-1-k))%256
theorem q6g(n f:Nat):(q88 n f).length=f:=by simp[q88]
def qx(n f:Nat):ByteArray:=strOfNums (q88 n f)
theorem qaq(n f:Nat):(qx n f).size=f:=by unfold qx;rw[strOfNums_size,q6g]
def Wr(w:World)(g:Nat)(s:ByteArray):Prop:=w.heap[g]? = some (.cells #[.string s] 174 (0,0))
theorem Wr.new{w w':World}{g:Nat}{s:ByteArray}(h:Wr w g s)(n:qq w w'):Wr w' g s:=n.old h (fun h=>h)
theorem Wr.lt{w:World}{g:Nat}{s:ByteArray}(h:Wr w g s):g<w.heap.size:=zr h
def qf8(w:World)(b:Nat)(ws:List Int):Prop:=∃T,w.heap[b]? = some (.cells (ws.map (Value.int .u8)).toArray T (0,0))
def qsk(n f m:Nat):List Int:=(List.range m).map fun k=>(n:Int) / 2 ^ (8*(f-1-k))%256
set_option maxRecDepth 100000 in
set_option maxHeartbeats 1000000 in
theorem qdn(g n f:Nat)(s:ByteArray)(w:World)(hg:Wr w g s)(c1:1≤f)(c2:f≤8)(hn:n<2 ^ (8*f))(hs:s.size≤1073741824) :
  Calls Tryz.prog 92 #[.pointer (some ⟨g,0,none⟩),.int .u64 n,.int .i64 f] w fun e w'=>e = .returned (.int .i64 0)∧Upd (fun k=>k=g) w w'∧Wr w' g (s++qx n f):=by
 have v:n<18446744073709551616:=Nat.lt_of_lt_of_le hn (by
  have:(2:Nat) ^ (8*f)≤2 ^ 64:=Nat.pow_le_pow_right (by decide) (by omega);exact this)
 have a7:(n:Int) / 2 ^ (8*f)=0:=by
  refine Int.ediv_eq_zero_of_lt (by omega) ?_;exact_mod_cast hn
 have b6:(1:Int)≤f:=by omega
 have b7:(f:Int)≤8:=by omega
 have b3:(8*(f:Int)).toNat=8*f:=by omega
 have K:decide ((f:Int)<1)=false:=by simp;omega
 have Z:decide ((8:Int)<(f:Int))=false:=by simp;omega
 have L:¬(f:Int)<1:=by omega
 have J:¬(8:Int)<(f:Int):=by omega
 have E:(n:Int)<18446744073709551616:=by omega
 go_enter Tryz.func92,Tryz.ntmps92
 go_wp2_with fail
 clear a7 b3 K Z L J
 have b8:=hg.lt
 go_loopw [7,8] (fun bv iv wr=>∃(m:Nat) (a:Option Addr) (c:Nat),iv = .int .i64 ((f:Int)-1-(m:Int))∧m≤f∧bv = .slice a m c∧Hid (qb0 wr w.heap.size bv (qsk n f m))∧Upd (fun k=>w.heap.size≤k) w wr) (fun _ iv _=>(intOf iv+1).toNat)
 case atStart=>exact⟨0,_,_,by simp,Nat.zero_le _,rfl,qb (qb0.nil _ _),Upd.refl _ _⟩
 case round =>
  obtain⟨m,a,c,rfl,hm,rfl,U,S⟩:=hrel;by_cases K:m<f
  ·have b9:(m:Int)<(f:Int):=by omega
   have hb:=S.size;have ht:(8*((f:Int)-1-(m:Int))).toNat=8*(f-1-m):=by omega
   have hp:∀k:Nat,(n:Int) / 2 ^ k<18446744073709551616∧0≤(n:Int) / 2 ^ k:=fun k=>by
    have hp:(1:Int)≤2 ^ k:=Int.pow_pos (by decide);exact⟨Int.lt_of_le_of_lt (Int.ediv_le_self _ (by omega)) E,Int.ediv_nonneg (by omega) (by omega)⟩
   obtain⟨q1,q0⟩:=hp (8*(f-1-m));have a8:IntKind.u64.wrap ((n:Int) / 2 ^ (8*(f-1-m)))=(n:Int) / 2 ^ (8*(f-1-m)):=by rw[IntKind.wrap_u64];omega
   have b4:=qb (And.intro v E);have N:(qsk n f m).length≤1073741824:=by simp[qsk];omega
   have O:qsk n f (m+1)=qsk n f m++[(n:Int) / 2 ^ (8*(f-1-m))%256]:=by unfold qsk;rw[List.range_succ,List.map_append];rfl
   have z:(qsk n f (m+1)).length=m+1:=by simp[qsk]
   have F:=qb O;have X:=qb z;have a6:0≤(f:Int)-1-(m:Int):=by omega
   clear hp O z q1 v E;go_wp2_with (at_builtin;refine qii rfl (.tmp 28) (.tmp 34) rfl w.heap.size _ _ rfl _ _ _ rfl (qa U) N hb ?_);intro v' w5 i u5;have u6:=S.then u5 (fun q _ h=>((qa U).ge h).1);rw[←qa F] at i;obtain⟨a5,c5,rfl⟩:=i.shape;rw[qa X] at i ⊢;have W:=qb i;clear i u5 U F q0 N ht a6 a8;go_wp2;go_roundw
   case rel=>exact⟨m+1,a5,c5,by congr 1;omega,by omega,rfl,W,u6⟩
   case measure=>simp[intOf];omega
  ·obtain rfl:m=f:=by omega
   rw[show (m:Int)-1-(m:Int) = -1 by omega];have R:=qi1 (((qa U).upd ((Upd.refl (fun _=>False) wr).drew) (fun _ _ h=>h)));have C:=S.old hg (fun h=>by omega);have c0:=qg C 0;have z0:=qu C 0;simp at c0;have M:strOfNums (qsk n m m)=qx n m:=rfl;rw[M] at R;have hq:=qaq n m;generalize P:qx n m=q at R hq ⊢;have Y:=qb P;clear P;have H:=zv C 0 (.string (s++q));have nW:qq w wr:=Upd.of_below (S.below' (Nat.le_refl _) (fun _ h=>h)) (Nat.le_refl _);have uW:Upd (fun k=>k=g) w (wr.setCell ⟨g,0,none⟩ (.string (s++q))):=(nW.mono (T:=fun k=>k=g) (fun _ _ h=>h.elim)).set1 0 _;have V:=qb H;clear H nW S;clear M;have b5:¬9223372036854775807<s.size+m:=by omega
   go_wp2_with fail;go_region_law (fail)
   all_goals
    have I:=qa V;generalize wr.setCell ⟨g,0,none⟩ (.string (s++q))=wS at I uW ⊢;go_wp2;go_ret;exact⟨rfl,uW.drew,by rw[qa Y];exact I⟩
theorem qf8.drew{w:World}{b:Nat}{ws:List Int}(h:qf8 w b ws):qf8 w.drew b ws:=h
theorem qde{w:World}{b:Nat}{xs:List Int}(h:qf8 w b xs)(n:Nat)(f:xs.length=n):(convert 95 9 (.slice (some ⟨b,0,none⟩) n n)).run Tryz.prog w = .ok (.string (strOfNums xs)) w:=by
 obtain⟨T,h⟩:=h;exact qc6 w 95 9 5 Tryz.underlying95 Tryz.underlying5 Tryz.underlying9 b n xs T (0,0) n f h
set_option maxRecDepth 100000 in
set_option maxHeartbeats 1000000 in
theorem qty(g:Nat)(h:List Int)(s:ByteArray)(w:World)(I:Wr w g s)(J:h.length=32)(S:s.size≤1073741824) :
  Calls Tryz.prog 189 #[.pointer (some ⟨g,0,none⟩),.agg (h.map (Value.int .u8)).toArray] w fun e w'=>e = .returned (.tuple #[])∧Upd (fun k=>k=g) w w'∧Wr w' g (s++strOfNums h):=by
 have R:(strOfNums h).size=32:=by rw[strOfNums_size,J]
 generalize v:(h.map (Value.int .u8)).toArray=L
 go_enter Tryz.func189,Tryz.ntmps189
 go_upto_region 1 with fail
 have H:qf8 (w.alloc (.cells L 35)) w.heap.size h:=⟨_,by rw[v];exact qj _ _⟩
 have C:qq w (w.alloc (.cells L 35)):=(Upd.refl _ _).alloc _
 have P:=I.lt
 have f:=I.new C
 generalize w.alloc (.cells L 35)=w1 at H C f ⊢
 have K:=qde (H.drew) 32 J
 have O:=qg f 0
 have z0:=qu f 0
 simp at O
 generalize z:strOfNums h=q at K R
 have F:=qb z
 have i:=zv f 0 (.string (s++q))
 have N:Upd (fun k=>k=g) w (w1.setCell ⟨g,0,none⟩ (.string (s++q))):=(C.mono (T:=fun k=>k=g) (fun _ _ h=>h.elim)).set1 0 _
 have E:=qb i
 have M:¬9223372036854775807<s.size+32:=by omega
 clear z i C H v f I J
 go_region_law (fail)
 all_goals
  have m:=qa E;generalize w1.setCell ⟨g,0,none⟩ (.string (s++q))=U at m N ⊢;go_end0;exact⟨rfl,N.drew,by rw[qa F];exact m⟩
set_option maxHeartbeats 1000000 in
theorem qft(g:Nat)(s:ByteArray)(w:World)(f:Wr w g s) :
  Calls Tryz.prog 93 #[.pointer (some ⟨g,0,none⟩)] w fun e w'=>e = .returned (.string s)∧w=w':=by
 have i:=qg f 0
 simp at i
 clear f
 go_enter Tryz.func93,Tryz.ntmps93
 go_wp2
 go_ret
 exact⟨rfl,rfl⟩
end Go.Proofs.YtfmkdoachjgjbaaGreatDoor
