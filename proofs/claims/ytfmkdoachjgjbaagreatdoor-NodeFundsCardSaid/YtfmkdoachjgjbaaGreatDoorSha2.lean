/-
  Package digest: Compress.
-/
import Derived.Test.YtfmkdoachjgjbaaGreatDoorMab
import Derived.BigRegion
import Derived.Deep.RegionLaw
import Derived.Deep.CutRange
import Derived.Deep.DrawnRows
import Derived.IntWalk
import Derived.Laws.ResultCell
set_option maxRecDepth 100000
set_option maxHeartbeats 4000000
set_option linter.unusedVariables false
set_option linter.unusedSimpArgs false
namespace Go.Proofs.YtfmkdoachjgjbaaGreatDoor
open Go.RowKit
def wd(ws:List Int)(i:Nat):Int:=ws.getD i 0
def qwk(s:ByteArray)(ws:List Int)(k:Nat):List Int:=ws.set (k / 4) (bits .or .u32 (wd ws (k / 4)*256%4294967296) (bt s k))
def qcp(s:ByteArray)(n:Nat):List Int:=(List.range n).foldl (qwk s) (List.replicate 64 0)
theorem qg2(s:ByteArray)(n:Nat):qcp s (n+1)=qwk s (qcp s n) n:=by simp[qcp,List.range_succ]
theorem qlj(s:ByteArray)(n:Nat):(qcp s n).length=64:=by
 induction n with
 | zero=>simp[qcp]
 | succ n i=>rw[qg2];simp[qwk,i]
def qej(ws:List Int):Prop:=∀x∈ws,0≤x∧x<4294967296
theorem qej.at{ws:List Int}(h:qej ws)(i:Nat):0≤wd ws i∧wd ws i<4294967296:=by
 unfold wd;rw[List.getD_eq_getElem?_getD];cases m:ws[i]? with
 | none=>simp
 | some x=>exact h x (List.mem_of_getElem? m)
theorem qej.set{ws:List Int}(h:qej ws)(i:Nat){x:Int}(o:0≤x∧x<4294967296):qej (ws.set i x):=by
 intro y m;rcases List.mem_or_eq_of_mem_set m with m | rfl
 ·exact h y m
 ·exact o
theorem qlk(s:ByteArray)(n:Nat):qej (qcp s n):=by
 induction n with
 | zero=>intro x i;simp[qcp] at i;omega
 | succ n m=>rw[qg2];exact m.set _ (qhr ..)
def qnp:List Int:=[1116352408,1899447441,3049323471,3921009573,961987163,1508970993,2453635748,2870763221,3624381080,310598401,607225278,1426881987,1925078388,2162078206,2614888103,3248222580,3835390401,4022224774,264347078,604807628,770255983,1249150122,1555081692,1996064986,2554220882,2821834349,2952996808,3210313671,3336571891,3584528711,113926993,338241895,666307205,773529912,1294757372,1396182291,1695183700,1986661051,2177026350,2456956037,2730485921,2820302411,3259730800,3345764771,3516065817,3600352804,4094571909,275423344,430227734,506948616,659060556,883997877,958139571,1322822218,1537002063,1747873779,1955562222,2024104815,2227730452,2361852424,2428436474,2756734187,3204031479,3329325298]
def qjf:List Int:=[1779033703,3144134277,1013904242,2773480762,1359893119,2600822924,528734635,1541459225]
structure Tabs(w:World):Prop where
 table:∀i,i<64→w.cell? ⟨4,i,none⟩=some (.int .u32 (qnp.getD i 0))
 start:∀i,i<8→w.cell? ⟨1,i,none⟩=some (.int .u32 (qjf.getD i 0))
theorem Tabs.upd{S:Nat→Prop}{w w':World}(h:Tabs w)(u:Upd S w w')(o:¬S 4)(q:¬S 1):Tabs w':=⟨fun i m=>u.cell (h.table i m) o,fun i m=>u.cell (h.start i m) q⟩
theorem Tabs.lt{w:World}(h:Tabs w):4<w.heap.size∧1<w.heap.size:=⟨World.block_lt_of_cell? w _ (h.table 0 (by decide)),World.block_lt_of_cell? w _ (h.start 0 (by decide))⟩
theorem Tabs.new{w w':World}(h:Tabs w)(u:qq w w'):Tabs w':=h.upd u (fun h=>h) (fun h=>h)
theorem q4d:qej qnp:=by unfold qej qnp;decide
def zbc(x:Int):Int:=bits .xor .u32 (qcn x [7,18]) (x / 8)
def zbd(y:Int):Int:=bits .xor .u32 (qcn y [17,19]) (y / 1024)
def qsk(ws:List Int)(j:Nat):List Int:=ws.set (j+16) ((wd ws j+zbc (wd ws (j+1))+wd ws (j+9)+zbd (wd ws (j+14)))%4294967296)
def qb2(s:ByteArray)(n:Nat):List Int:=(List.range n).foldl qsk (qcp s 64)
theorem qhb(s:ByteArray):qb2 s 0=qcp s 64:=by unfold qb2;simp only[List.range_zero,List.foldl_nil]
theorem qha(s:ByteArray)(n:Nat):qb2 s (n+1)=qsk (qb2 s n) n:=by simp[qb2,List.range_succ]
theorem qdu(s:ByteArray)(n:Nat):(qb2 s n).length=64:=by
 induction n with
 | zero=>rw[qhb];exact qlj s 64
 | succ n i=>rw[qha];simp[qsk,i]
theorem qlp(s:ByteArray)(n:Nat):qej (qb2 s n):=by
 induction n with
 | zero=>rw[qhb];exact qlk s 64
 | succ n i=>rw[qha];exact i.set _ (by omega)
def chI(e f g:Int):Int:=bits .xor .u32 (bits .and .u32 e f) (bits .and .u32 (bits .xor .u32 4294967295 e) g)
def za6(a b c:Int):Int:=bits .xor .u32 (bits .xor .u32 (bits .and .u32 a b) (bits .and .u32 a c)) (bits .and .u32 b c)
def q7t(e f g h k w:Int):Int:=(h+qcn e [6,11,25]+chI e f g+k+w)%4294967296
def zah(a b c:Int):Int:=(qcn a [2,13,22]+za6 a b c)%4294967296
def qkv(ws:List Int):List Int→Nat→List Int
 | [a,b,c,d,e,f,g,h],k=>[(q7t e f g h (qnp.getD k 0) (wd ws k)+zah a b c)%4294967296,a,b,c,(d+q7t e f g h (qnp.getD k 0) (wd ws k))%4294967296,e,f,g]
 | v,_=>v
def qfq(ws v:List Int)(n:Nat):List Int:=(List.range n).foldl (qkv ws) v
theorem qn6(ws v:List Int):qfq ws v 0=v:=by unfold qfq;simp only[List.range_zero,List.foldl_nil]
theorem qn5(ws v:List Int)(n:Nat):qfq ws v (n+1)=qkv ws (qfq ws v n) n:=by simp[qfq,List.range_succ]
theorem qcl{l:List Int}(h:l.length=8):∃a b c d e f g i,l=[a,b,c,d,e,f,g,i]:=by
 match l,h with
 | [a,b,c,d,e,f,g,i],_=>exact⟨a,b,c,d,e,f,g,i,rfl⟩
theorem q07(ws:List Int)(v:List Int)(k:Nat)(h:v.length=8∧qej v):(qkv ws v k).length=8∧qej (qkv ws v k):=by
 obtain⟨q,m⟩:=h;obtain⟨a,b,c,d,e,f,g,i,rfl⟩:=qcl q;refine⟨rfl,?_⟩;intro x o;simp only[qkv,List.mem_cons,List.not_mem_nil,or_false] at o;rcases o with rfl | rfl | rfl | rfl | rfl | rfl | rfl | rfl
 ·omega
 ·exact m _ (by simp)
 ·exact m _ (by simp)
 ·exact m _ (by simp)
 ·omega
 ·exact m _ (by simp)
 ·exact m _ (by simp)
 ·exact m _ (by simp)
theorem qum(ws v:List Int)(n:Nat)(h:v.length=8∧qej v):(qfq ws v n).length=8∧qej (qfq ws v n):=by
 induction n with
 | zero=>rw[qn6];exact h
 | succ n i=>rw[qn5];exact q07 _ _ _ i
def qq4(v m:List Int)(i:Nat):List Int:=m.set i ((wd m i+wd v i)%4294967296)
def qc4(v i:List Int)(n:Nat):List Int:=(List.range n).foldl (qq4 v) i
theorem qjb(v i:List Int):qc4 v i 0=i:=by unfold qc4;simp only[List.range_zero,List.foldl_nil]
theorem qja(v i:List Int)(n:Nat):qc4 v i (n+1)=qq4 v (qc4 v i n) n:=by simp[qc4,List.range_succ]
theorem qiu(v i:List Int)(n:Nat)(h:i.length=8∧qej i):(qc4 v i n).length=8∧qej (qc4 v i n):=by
 induction n with
 | zero=>rw[qjb];exact h
 | succ n m=>rw[qja];exact⟨by simp[qq4,m.1],m.2.set _ (by omega)⟩
def q7s(xs:List Value)(m:Array Value)(i:Nat)(v:Value)(w:World):Prop:=if i=3 then ∃g T,v = .slice (some ⟨g,0,none⟩) 3 3∧w.heap[g]? = some (.cells m T (0,0)) else v=xs.getD i undef
theorem q42{xs:List Value}{o:Array Value}(i:Nat)(v:Value){w w':World}(n:qq w w')(h:q7s xs o i v w):q7s xs o i v w':=by
 unfold q7s at h ⊢;split
 ·rename_i m;rw[if_pos m] at h;obtain⟨g,T,e,q⟩:=h;exact⟨g,T,e,n.old q (fun h=>h)⟩
 ·rename_i m;rw[if_neg m] at h;exact h
theorem qbl.of{k:IntKind}{w:World}{b:Nat}{ws:List Int}{T:TypeId}{C:Array Value}(h:w.heap[b]? = some (.cells C T (0,0)))(e:C=(ws.map (Value.int k)).toArray):qbl k w b ws:=⟨T,by rw[h,e]⟩
theorem Tryz.infoW64:(Tryz.prog.info? 321).map (·.size)=some 64:=by kernel_rfl
def q80(x:Value):Sem Value:=Instr.loadAt 321 x
theorem qt1(x:Value):Instr.loadAt 321 x=q80 x:=rfl
theorem q9y(b o:Nat)(w:World):(q80 (.pointer (some ⟨b,o,none⟩))).run Tryz.prog w=match zt w b o 64 with | some A=> .ok (.agg A) w | none=>qc3 Tryz.prog 321 w b o :=
 qag 321 64 _ Tryz.underlying321 rfl Tryz.infoW64 b o w
theorem qbl.row{k:IntKind}{w:World}{b:Nat}{ws:List Int}(h:qbl k w b ws){n:Nat}(i:ws.length=n):zt w b 0 n=some (ws.map (Value.int k)).toArray:=by
 obtain⟨T,h⟩:=h;exact qaj h n (by simp[i])
attribute [local go_sem ↓ high] qt1
attribute [local go_sem] q9y
attribute [local go_sem ↓] Go.wp_at_zero Go.wp_at_succ
theorem qma{P:Program}{fn:Func}{p u:Tmp}{i:TypeId}(h:fn.results=#[.cell p i,.tmp u])(tmps:Array Value)(w:World)(g:Nat)(t:TypeId)(cs:Array Value)(fr:Nat × Nat)(d:TypeDesc)
  (q:tmps.getD p undef = .pointer (some ⟨g,0,none⟩)) (m:w.heap[g]? = some (.cells cs t fr))
  (v:P.underlying i=some d) (hd:(match d with | .struct _ | .array _ _=>true | _=>false)=true) (o:(P.info? i).map (·.size)=some cs.size) :
  (results fn tmps).run P w = .ok (.tuple #[.agg cs,tmps.getD u undef]) w:=by
 rw[results_cell_tmp h,q]
 simp[asAddr,run_loadVar_row w g t i cs fr d m v hd o,Result.andThen]
theorem Tryz.infoW8:(Tryz.prog.info? 295).map (·.size)=some 8:=by kernel_rfl
def qte(h:List Int)(s:ByteArray):List Int:=qc4 (qfq (qb2 s 48) h 64) h 8
theorem qx4(h:List Int)(s:ByteArray)(i:h.length=8∧qej h):(qte h s).length=8∧qej (qte h s):=qiu _ _ _ i
theorem qrl(h:List Int)(s:ByteArray)(w:World)(hh:h.length=8)(hu:qej h)(hs:s.size=64)(g6:Tabs w) :
  Calls Tryz.prog 212 #[.agg (h.map (Value.int .u32)).toArray,.string s] w fun e w'=>e = .returned (.tuple #[.agg ((qte h s).map (Value.int .u32)).toArray,.bool true])∧qq w w':=by
 have hw:=g6.lt
 obtain⟨J,K,I,M,N,O,P,R,rfl⟩:∃a b c d e f g i,h=[a,b,c,d,e,f,g,i]:=by
  match h,hh with
  | [a,b,c,d,e,f,g,i],_=>exact⟨a,b,c,d,e,f,g,i,rfl⟩
 simp only[List.map_cons,List.map_nil]
 go_enter Tryz.func212,Tryz.ntmps212
 go_upto_region 4 with fail
 obtain⟨wA,c2⟩:∃wA:World,wA=((w.alloc (.cells #[.int .u32 J,.int .u32 K,.int .u32 I,.int .u32 M,.int .u32 N,.int .u32 O,.int .u32 P,.int .u32 R] 295)).alloc (.cells #[.int .u32 0,.int .u32 0,.int .u32 0,.int .u32 0,.int .u32 0,.int .u32 0,.int .u32 0,.int .u32 0] 295)).alloc (.cells #[.int .u32 0,.int .u32 0,.int .u32 0,.int .u32 0,.int .u32 0,.int .u32 0,.int .u32 0,.int .u32 0,.int .u32 0,.int .u32 0,.int .u32 0,.int .u32 0,.int .u32 0,.int .u32 0,.int .u32 0,.int .u32 0,.int .u32 0,.int .u32 0,.int .u32 0,.int .u32 0,.int .u32 0,.int .u32 0,.int .u32 0,.int .u32 0,.int .u32 0,.int .u32 0,.int .u32 0,.int .u32 0,.int .u32 0,.int .u32 0,.int .u32 0,.int .u32 0,.int .u32 0,.int .u32 0,.int .u32 0,.int .u32 0,.int .u32 0,.int .u32 0,.int .u32 0,.int .u32 0,.int .u32 0,.int .u32 0,.int .u32 0,.int .u32 0,.int .u32 0,.int .u32 0,.int .u32 0,.int .u32 0,.int .u32 0,.int .u32 0,.int .u32 0,.int .u32 0,.int .u32 0,.int .u32 0,.int .u32 0,.int .u32 0,.int .u32 0,.int .u32 0,.int .u32 0,.int .u32 0,.int .u32 0,.int .u32 0,.int .u32 0,.int .u32 0] 321):=⟨_,rfl⟩
 have sA:wA.heap.size=w.heap.size+3:=by rw[c2];simp
 have nA:qq w wA:=by rw[c2];exact(((Upd.refl _ _).alloc _).alloc _).alloc _
 have vA:qbl .u32 wA w.heap.size [J,K,I,M,N,O,P,R]:=by rw[c2];exact⟨_,qx (qx (ql _ _) _) _⟩
 have vB:qbl .u32 wA (w.heap.size+1) [0,0,0,0,0,0,0,0]:=by
  rw[c2];have:=ql (w.alloc (.cells #[.int .u32 J,.int .u32 K,.int .u32 I,.int .u32 M,.int .u32 N,.int .u32 O,.int .u32 P,.int .u32 R] 295)) (.cells #[.int .u32 0,.int .u32 0,.int .u32 0,.int .u32 0,.int .u32 0,.int .u32 0,.int .u32 0,.int .u32 0] 295);rw[World.size_alloc] at this;exact⟨_,qx this _⟩
 have vW:qbl .u32 wA (w.heap.size+1+1) (List.replicate 64 0):=by
  rw[c2];have:=ql ((w.alloc (.cells #[.int .u32 J,.int .u32 K,.int .u32 I,.int .u32 M,.int .u32 N,.int .u32 O,.int .u32 P,.int .u32 R] 295)).alloc (.cells #[.int .u32 0,.int .u32 0,.int .u32 0,.int .u32 0,.int .u32 0,.int .u32 0,.int .u32 0,.int .u32 0] 295)) (.cells #[.int .u32 0,.int .u32 0,.int .u32 0,.int .u32 0,.int .u32 0,.int .u32 0,.int .u32 0,.int .u32 0,.int .u32 0,.int .u32 0,.int .u32 0,.int .u32 0,.int .u32 0,.int .u32 0,.int .u32 0,.int .u32 0,.int .u32 0,.int .u32 0,.int .u32 0,.int .u32 0,.int .u32 0,.int .u32 0,.int .u32 0,.int .u32 0,.int .u32 0,.int .u32 0,.int .u32 0,.int .u32 0,.int .u32 0,.int .u32 0,.int .u32 0,.int .u32 0,.int .u32 0,.int .u32 0,.int .u32 0,.int .u32 0,.int .u32 0,.int .u32 0,.int .u32 0,.int .u32 0,.int .u32 0,.int .u32 0,.int .u32 0,.int .u32 0,.int .u32 0,.int .u32 0,.int .u32 0,.int .u32 0,.int .u32 0,.int .u32 0,.int .u32 0,.int .u32 0,.int .u32 0,.int .u32 0,.int .u32 0,.int .u32 0,.int .u32 0,.int .u32 0,.int .u32 0,.int .u32 0,.int .u32 0,.int .u32 0,.int .u32 0,.int .u32 0] 321);rw[World.size_alloc,World.size_alloc] at this;exact⟨_,this⟩
 rw[←c2]
 clear c2
 have TA:=g6.new nA
 generalize f7:w.heap.size=A at *
 have d2:=qj f7
 clear f7
 have n4:A+3≤wA.heap.size:=by omega
 clear sA
 obtain⟨wo,rfl⟩:∃wo:World,wo=wA:=⟨_,rfl⟩
 go_wp2_with fail
 go_loopw [7,30] (fun _ iv wr=>∃k:Nat,iv = .int .i64 (k:Int)∧k≤64∧qbl .u32 wr (A+1+1) (qcp s k)∧Upd (fun k=>k=A+1+1) wo wr) (fun _ iv _=>64-(intOf iv).toNat)
 case atStart=>exact⟨0,rfl,by omega,vW,Upd.refl _ _⟩
 case round =>
  obtain⟨k,rfl,hk,hW,ur⟩:=hrel;by_cases n3:k<64
  ·have c6:=qlj s k;have c0:=hW.cell (i:=k / 4) (by omega);have z0:=hW.free (k / 4);have T:=hW.set (k / 4) (bits .or .u32 (wd (qcp s k) (k / 4)*256%4294967296) (bt s k));obtain⟨k4,k5⟩:=(qlk s k).at (k / 4);rw[show (qcp s k).set (k / 4) (bits .or .u32 (wd (qcp s k) (k / 4)*256%4294967296) (bt s k))=qcp s (k+1) from(qg2 s k).symm] at T;change wr.cell? _=some (.int .u32 (wd (qcp s k) (k / 4))) at c0;have k6:∀W:World,(Instr.index 9 (.string s) (.int .i64 (k:Int))).run Tryz.prog W = .ok (.int .u8 (bt s k)) W:=fun W=>qey _ s _ _ k Tryz.underlying9 rfl (by omega) W
   obtain⟨h9,i0⟩:=qf3 s k;have f1:(k:Int)<64:=by omega
   have d8:((k:Int) / 4).toNat=k / 4:=by omega
   have f2:(0:Int)≤(k:Int) / 4:=by omega
   have f3:(k:Int) / 4<64:=by omega
   have f4:IntKind.i64.wrap ((k:Int) / 4)=(k:Int) / 4:=IntWalk.i64_in _ (by omega);have Z:=qj T;clear T c6 hW;generalize wd (qcp s k) (k / 4)=x at c0 k4 k5 Z;generalize bt s k=y at k6 h9 i0 Z;have c4:IntKind.u32.wrap (x*256)=x*256%4294967296:=by rw[IntKind.wrap_u32]
   have d3:IntKind.u32.wrap y=y:=IntWalk.u32_in _ (by omega);go_wp2_with fail;go_region_law (fail)
   all_goals
    have us:=ur.set1 (k / 4) (.int .u32 (bits .or .u32 (x*256%4294967296) y));have b9:=qg Z;generalize wr.setCell ⟨A+1+1,k / 4,none⟩ (.int .u32 (bits .or .u32 (x*256%4294967296) y))=wS at *
    go_wp2;go_roundw
    case rel=>exact⟨k+1,by go_num,by omega,(b9:qbl .u32 wS _ _),us.drew⟩
    case measure=>simp[intOf];omega
  ·obtain rfl:k=64:=by omega
   rw[show ((64:Nat):Int)=64 from rfl];have j0:=vA.upd ur (by omega);have j2:=vB.upd ur (by omega);have l9:=ur.size;have u0:=ur;clear vA vB vW ur;obtain⟨w2,rfl⟩:∃w2:World,w2=wr:=⟨_,rfl⟩;go_wp2_with fail
   go_loopw [8,9,10,11,12] (fun iv _ _ _ _ wr=>∃j:Nat,iv = .int .i64 ((j:Int)+16)∧j≤48∧qbl .u32 wr (A+1+1) (qb2 s j)∧Upd (fun k=>k=A+1+1) w2 wr) (fun iv _ _ _ _ _=>64-(intOf iv).toNat)
   case atStart=>exact⟨0,rfl,by omega,by rw[qhb];exact hW,Upd.refl _ _⟩
   case round =>
    clear hW;obtain⟨j,rfl,hj,hW,ur⟩:=hrel;by_cases l7:j<48
    ·have c6:=qdu s j;have hr:=qlp s j;have c1:wr.cell? ⟨A+1+1,j+1,none⟩=some (.int .u32 (wd (qb2 s j) (j+1))):=hW.cell (by omega);have f0:wr.cell? ⟨A+1+1,j+14,none⟩=some (.int .u32 (wd (qb2 s j) (j+14))):=hW.cell (by omega);obtain⟨r1,i8⟩:=hr.at (j+1);obtain⟨i9,d6⟩:=hr.at (j+14);obtain⟨r0,l0⟩:=hr.at j;obtain⟨r9,l1⟩:=hr.at (j+9);have t:=qha s j;unfold qsk zbc zbd at t;have HN:=qj t;have HW:=qj hW;have f1:(j:Int)<48:=by omega
     have d8:IntKind.i64.wrap ((j:Int)+16-15)=(j:Int)+1:=by rw[IntWalk.i64_in _ (by omega)];omega
     have f2:IntKind.i64.wrap ((j:Int)+16-2)=(j:Int)+14:=by rw[IntWalk.i64_in _ (by omega)];omega
     have f3:((j:Int)+1).toNat=j+1:=by omega
     have f4:((j:Int)+14).toNat=j+14:=by omega
     clear hW hr c6 t;generalize hx:wd (qb2 s j) (j+1)=x at c1 r1 i8 HN;generalize hy:wd (qb2 s j) (j+14)=y at f0 i9 d6 HN;clear hx hy;go_wp2_with fail;go_quiet (fail);go_wp2_with fail;refine(qqv x 7 18 _ _ _ (by decide) (by decide) r1 i8 (by exact ql _ _)).mono ?_;rintro e w5 ⟨rfl,q5⟩;have n5:qq wr w5:=(((Upd.refl _ wr).drewN _).alloc _).trans (q5.upd _);clear q5;go_wp2_with fail;refine(qqv y 17 19 _ _ _ (by decide) (by decide) i9 d6 (by exact ql _ _)).mono ?_;rintro e w6 ⟨rfl,q6⟩;have n6:qq wr w6:=n5.trans (((Upd.refl _ w5).alloc _).trans (q6.upd _));clear n5 q6 c1 f0;have c3:=(qg HW).upd n6 (fun h=>h);have c0:w6.cell? ⟨A+1+1,j,none⟩=some (.int .u32 (wd (qb2 s j) j)):=c3.cell (by rw[qdu];omega);have c9:w6.cell? ⟨A+1+1,j+9,none⟩=some (.int .u32 (wd (qb2 s j) (j+9))):=c3.cell (by rw[qdu];omega);obtain⟨n7,m4⟩:∃v,w6.cell? ⟨A+1+1,j+16,none⟩=some v:=⟨_,c3.cell (by rw[qdu];omega)⟩;have o0:=c3.free (j+16);go_upto_region 15 with fail;obtain⟨p0,p1⟩:=qhr .xor (qcn x [7,18]) (x / 8);obtain⟨p2,p3⟩:=qhr .xor (qcn y [17,19]) (y / 1024);generalize bits .xor .u32 (qcn x [7,18]) (x / 8)=p at HN p0 p1 ⊢;generalize bits .xor .u32 (qcn y [17,19]) (y / 1024)=q at HN p2 p3 ⊢;generalize wd (qb2 s j) j=a at c0 r0 l0 HN;generalize wd (qb2 s j) (j+9)=b at c9 r9 l1 HN;have T:=c3.set (j+16) ((a+p+b+q)%4294967296);rw[←qg HN] at T;have Z:=qj T;have u6:=ur.then n6 (fun _ _ h=>h.elim);clear T c3 n6 HW HN d8 f2 f3 f4;have c4:IntKind.i64.wrap (j:Int)=(j:Int):=IntWalk.i64_in _ (by omega);have d3:IntKind.i64.wrap ((j:Int)+16-7)=(j:Int)+9:=by rw[IntWalk.i64_in _ (by omega)];omega
     have m6:(j:Int)<64:=by omega
     have m7:(j:Int)+9<64:=by omega
     have m8:(j:Int)+16<64:=by omega
     have m9:(0:Int)≤(j:Int)+9:=by omega
     have n1:(0:Int)≤(j:Int)+16:=by omega
     have f5:((j:Int)+9).toNat=j+9:=by omega
     have f6:((j:Int)+16).toNat=j+16:=by omega
     have d9:IntKind.u32.wrap (a+p)=(a+p)%4294967296:=by rw[IntKind.wrap_u32]
     have e3:IntKind.u32.wrap ((a+p)%4294967296+b)=(a+p+b)%4294967296:=by rw[IntKind.wrap_u32];omega
     have k3:IntKind.u32.wrap ((a+p+b)%4294967296+q)=(a+p+b+q)%4294967296:=by rw[IntKind.wrap_u32];omega
     go_wp2_with fail;go_region_law (fail)
     all_goals
      have us:=u6.set1 (j+16) (.int .u32 ((a+p+b+q)%4294967296));have b9:=qg Z;generalize w6.setCell ⟨A+1+1,j+16,none⟩ (.int .u32 ((a+p+b+q)%4294967296))=wS at *
      clear d9 e3 k3 c4 d3;go_wp2;go_roundw
      case rel=>exact⟨j+1,by first | (rw[show ((j+1:Nat):Int)+16=(j:Int)+16+1 by omega];done) | (simp;omega),by omega,(b9:qbl .u32 wS _ _),us.drew⟩
      case measure=>simp[intOf];omega
    ·obtain rfl:j=48:=by omega
     rw[show ((48:Nat):Int)+16=64 from rfl];have Y:=j0.upd ur (by omega);have j3:=j2.upd ur (by omega);have u3:=u0.trans ur;have m1:=ur.size;obtain⟨w3,rfl⟩:∃w3:World,w3=wr:=⟨_,rfl⟩;have a0:=Y.cell (i:=0) (by simp);have a1:=Y.cell (i:=1) (by simp);have a2:=Y.cell (i:=2) (by simp);have a3:=Y.cell (i:=3) (by simp);have a4:=Y.cell (i:=4) (by simp);have a5:=Y.cell (i:=5) (by simp);have a6:=Y.cell (i:=6) (by simp);have a7:=Y.cell (i:=7) (by simp);simp at a0 a1 a2 a3 a4 a5 a6 a7;have e8:=qj hW;clear j0 j2 u0 ur hW;have i1:=(qg e8).row (qdu s 48);go_upto_region 17 with fail;have vV:=qbl.of (k:= .u32) (ws:=[J,K,I,M,N,O,P,R]) (ql w3 (.cells #[.int .u32 J,.int .u32 K,.int .u32 I,.int .u32 M,.int .u32 N,.int .u32 O,.int .u32 P,.int .u32 R] 295)) rfl;have nV:qq w3 (w3.alloc (.cells #[.int .u32 J,.int .u32 K,.int .u32 I,.int .u32 M,.int .u32 N,.int .u32 O,.int .u32 P,.int .u32 R] 295)):=(Upd.refl _ _).alloc _;generalize w3.alloc (.cells #[.int .u32 J,.int .u32 K,.int .u32 I,.int .u32 M,.int .u32 N,.int .u32 O,.int .u32 P,.int .u32 R] 295)=w4 at vV nV ⊢;have c8:=qbg i1 nV (fun h=>h);have k8:=qdu s 48;have i5:=qlp s 48;have m3:=vV.lt;have m0:=nV.size;have TT:=(TA.upd u3 (by omega) (by omega)).new nV;clear i1 e8 a0 a1 a2 a3 a4 a5 a6 a7;generalize i4:qb2 s 48=ws at c8 k8 i5;have e9:=qj i4;clear i4;generalize f8:(ws.map (Value.int .u32)).toArray=Cw at c8;have d4:∀(k:Nat) (W:World),k<64→(Instr.index 321 (.agg Cw) (.int .i64 (k:Int))).run Tryz.prog W = .ok (.int .u32 (wd ws k)) W:=by
      intro k W hk;have e1:Cw[k]? = some (.int .u32 (wd ws k)):=by
       rw[←f8,List.getElem?_toArray,List.getElem?_map,List.getElem?_eq_getElem (by omega),wd,List.getD_eq_getElem?_getD,List.getElem?_eq_getElem (by omega)];rfl
      have I:0≤(k:Int)∧(k:Int)<((64:Nat):Int):=by omega
      simp[Instr.index,run_underlying Tryz.underlying321,asIntOf,I,e1,go_sem];intro l6;omega
     have HX:=qj d4;clear d4 f8;obtain⟨w5,rfl⟩:∃w5:World,w5=w4:=⟨_,rfl⟩;go_wp2_with fail
     go_loopw [14,15,16,17,18,19,20,21,22,23,24,88] (fun _ _ _ _ _ _ _ _ _ _ _ iv wr=>∃k:Nat,iv = .int .i64 (k:Int)∧k≤64∧qbl .u32 wr w3.heap.size (qfq ws [J,K,I,M,N,O,P,R] k)∧Upd (fun k=>k=w3.heap.size) w5 wr) (fun _ _ _ _ _ _ _ _ _ _ _ iv _=>64-(intOf iv).toNat)
     case atStart=>exact⟨0,rfl,by omega,by rw[qn6];exact vV,Upd.refl _ _⟩
     case round =>
      obtain⟨k,rfl,hk,hV,ur⟩:=hrel;by_cases d5:k<64
      ·have b8:=qum ws [J,K,I,M,N,O,P,R] k ⟨rfl,hu⟩;have t:=qn5 ws [J,K,I,M,N,O,P,R] k;generalize hv:qfq ws [J,K,I,M,N,O,P,R] k=v at hV b8 t;clear hv;obtain⟨h8,V⟩:=b8;obtain⟨a,b,c,d,e,f,g,o,rfl⟩:=qcl h8;clear h8;have HN:=qj t;have v0:=hV.cell (i:=0) (by simp);have v1:=hV.cell (i:=1) (by simp);have v2:=hV.cell (i:=2) (by simp);have v3:=hV.cell (i:=3) (by simp);have v4:=hV.cell (i:=4) (by simp);have v5:=hV.cell (i:=5) (by simp);have v6:=hV.cell (i:=6) (by simp);have v7:=hV.cell (i:=7) (by simp);simp at v0 v1 v2 v3 v4 v5 v6 v7;have HV:=qj hV;clear t hV;have ix:=qg HX k wr d5;have tk:=(TT.upd ur (by omega) (by omega)).table k d5;obtain⟨t0,l2⟩:=q4d.at k;obtain⟨x0,l5⟩:=i5.at k;change wr.cell? _=some (.int .u32 (wd qnp k)) at tk;generalize f9:wd qnp k=kk at tk t0 l2;generalize g9:wd ws k=wk at ix x0 l5;have b0:=V a (by simp);have b1:=V b (by simp);have b2:=V c (by simp);have b3:=V d (by simp);have b4:=V e (by simp);have b5:=V f (by simp);have b6:=V g (by simp);have b7:=V o (by simp);obtain⟨j8,j9⟩:=b4;have BB:=qj (And.intro b0 (And.intro b1 (And.intro b2 (And.intro b3 (And.intro b5 (And.intro b6 b7))))));clear b0 b1 b2 b3 b5 b6 b7;have n2:(k:Int)<64:=by omega
       clear V;obtain⟨wq,rfl⟩:∃wq:World,wq=wr:=⟨_,rfl⟩;go_wp2_with fail;go_quiet (fail);clear v0 v1 v2 v3 v4 v5 v6 ix;obtain⟨T0,T1⟩:=qqt e [6,11,25];obtain⟨p0,p1⟩:=qhr .xor (bits .and .u32 e f) (bits .and .u32 (bits .xor .u32 4294967295 e) g);generalize e4:qcn e [6,11,25]=te at T0 T1;generalize g5:bits .xor .u32 (bits .and .u32 e f) (bits .and .u32 (bits .xor .u32 4294967295 e) g)=p at p0 p1;have c7:q7t e f g o (qnp.getD k 0) (wd ws k)=(o+te+p+kk+wk)%4294967296:=by
        unfold q7t chI;rw[e4,g5,g9,show qnp.getD k 0=kk from f9]
       clear f9 g9;obtain⟨H,g4⟩:∃H:Int,H=(o+te+p+kk+wk)%4294967296:=⟨_,rfl⟩;rw[←g4] at c7;have e5:=qj c7;clear c7;have c4:IntKind.u32.wrap (o+te)=(o+te)%4294967296:=by rw[IntKind.wrap_u32]
       have d3:IntKind.u32.wrap ((o+te)%4294967296+p)=(o+te+p)%4294967296:=by rw[IntKind.wrap_u32];omega
       have f5:IntKind.u32.wrap ((o+te+p)%4294967296+kk)=(o+te+p+kk)%4294967296:=by rw[IntKind.wrap_u32];omega
       have f6:IntKind.u32.wrap ((o+te+p+kk)%4294967296+wk)=H:=by rw[IntKind.wrap_u32];omega
       clear g4;have d9:(k:Int).toNat=k:=by omega
       have e3:IntKind.i64.wrap (k:Int)=(k:Int):=IntWalk.i64_in _ (by omega);go_wp2_with fail;refine zam (by kernel_rfl) [[],[(0,106)],[],[],[(2,108),(3,109)],[(1,107),(4,110)],[],[],[(6,112),(7,113)],[],[(9,115)],[],[(10,116),(11,117)],[(8,114),(12,118)],[(5,111),(13,119)],[],[(15,121)],[(16,122)],[(14,120),(17,123)],[],[(18,124),(19,125)],[(20,126)]] 169 (by rfl) (by kernel_rfl)
        [(0,106),(1,107),(2,108),(3,109),(4,110),(5,111),(6,112),(7,113),(8,114),(9,115),(10,116),(11,117),(12,118),(13,119),(14,120),(15,121),(16,122),(17,123),(18,124),(19,125),(20,126),(21,23)] (by kernel_rfl) (fun w'=>qq wq w') qq
        (q7s [.pointer (some ⟨w3.heap.size,7,none⟩),.int .u32 (o),.int .u32 (e),undef,.int .u32 (te),.int .u32 ((o+te)%4294967296),.int .u32 (e),.int .u32 (f),.int .u32 (bits .and .u32 e f),.int .u32 (e),.int .u32 (bits .xor .u32 4294967295 e),.int .u32 (g),.int .u32 (bits .and .u32 (bits .xor .u32 4294967295 e) g),.int .u32 (p),.int .u32 ((o+te+p)%4294967296),.int .i64 (k:Int),.pointer (some ⟨4,k,none⟩),.int .u32 (kk),.int .u32 ((o+te+p+kk)%4294967296),.int .u32 (wk),.int .u32 H,.int .u32 H] #[.int .u64 6,.int .u64 11,.int .u64 25]) (((Upd.refl _ wq).drewN _).drew) (fun w=>Upd.refl _ w) (fun i v w w' _ _ n h=>q42 i v n h) ?_ ?_
       ·have q7:∀ {w':World},qq wq w'→w'.cell? ⟨w3.heap.size,7,none⟩=some (.int .u32 o):=fun n=>n.cell v7 (fun h=>h)
        have qt:∀ {w':World},qq wq w'→w'.cell? ⟨4,k,none⟩=some (.int .u32 kk):=fun n=>n.cell tk (fun h=>h)
        refine qad.plain rfl ?_ (qad.plain rfl ?_ (qad.plain rfl ?_ (qad.plain rfl ?_ (qad.plain rfl ?_ (qad.plain rfl ?_ (qad.plain rfl ?_ (qad.plain rfl ?_ (qad.plain rfl ?_ (qad.plain rfl ?_ (qad.plain rfl ?_ (qad.plain rfl ?_ (qad.plain rfl ?_ (qad.plain rfl ?_ (qad.plain rfl ?_ (qad.plain rfl ?_ (qad.plain rfl ?_ (qad.plain rfl ?_ (qad.plain rfl ?_ (qad.plain rfl ?_ (qad.plain rfl ?_ (qad.plain rfl ?_ (qad.nil))))))))))))))))))))))
        ·intro qz w' C _;unfold qam;simp only[putL];go_simp
         first | exact⟨Upd.refl _ _,rfl⟩ | exact⟨Upd.refl _ _,C,rfl⟩ | skip
        ·rintro qz w' C ⟨D,-⟩;replace D:qz 0 = .pointer (some ⟨w3.heap.size,7,none⟩):=D;have q7:=q7 C;unfold qam;simp only[putL];go_simp
         first | exact⟨Upd.refl _ _,rfl⟩ | exact⟨Upd.refl _ _,C,rfl⟩ | skip
        ·intro qz w' C _;unfold qam;simp only[putL];go_simp
         first | exact⟨Upd.refl _ _,rfl⟩ | exact⟨Upd.refl _ _,C,rfl⟩ | skip
        ·intro qz w' C _;unfold qam;simp only[putL];go_simp
         first | exact⟨(Upd.refl _ _).alloc _,C.trans ((Upd.refl _ _).alloc _),_,_,rfl,ql _ _⟩ | skip
        ·rintro qz w' C ⟨D,U,-⟩;replace D:qz 2 = .int .u32 (e):=D;obtain⟨g3,T3,U,hb⟩:=U;unfold qam;simp only[putL];go_simp;refine(qlx e 6 11 25 _ _ _ (by decide) (by decide) (by decide) j8 j9 hb).mono ?_;rintro e2 w2 ⟨rfl,q2⟩;exact⟨_,rfl,q2.upd _,C.trans (q2.upd _),by rw[e4];rfl⟩
        ·rintro qz w' C ⟨D,U,-⟩;replace D:qz 1 = .int .u32 (o):=D;replace U:qz 4 = .int .u32 (te):=U;unfold qam;simp only[putL];go_simp
         first | exact⟨Upd.refl _ _,rfl⟩ | exact⟨Upd.refl _ _,C,rfl⟩ | skip
        ·intro qz w' C _;unfold qam;simp only[putL];go_simp
         first | exact⟨Upd.refl _ _,rfl⟩ | exact⟨Upd.refl _ _,C,rfl⟩ | skip
        ·intro qz w' C _;unfold qam;simp only[putL];go_simp
         first | exact⟨Upd.refl _ _,rfl⟩ | exact⟨Upd.refl _ _,C,rfl⟩ | skip
        ·rintro qz w' C ⟨D,U,-⟩;replace D:qz 6 = .int .u32 (e):=D;replace U:qz 7 = .int .u32 (f):=U;unfold qam;simp only[putL];go_simp
         first | exact⟨Upd.refl _ _,rfl⟩ | exact⟨Upd.refl _ _,C,rfl⟩ | skip
        ·intro qz w' C _;unfold qam;simp only[putL];go_simp
         first | exact⟨Upd.refl _ _,rfl⟩ | exact⟨Upd.refl _ _,C,rfl⟩ | skip
        ·rintro qz w' C ⟨D,-⟩;replace D:qz 9 = .int .u32 (e):=D;unfold qam;simp only[putL];go_simp
         first | exact⟨Upd.refl _ _,rfl⟩ | exact⟨Upd.refl _ _,C,rfl⟩ | skip
        ·intro qz w' C _;unfold qam;simp only[putL];go_simp
         first | exact⟨Upd.refl _ _,rfl⟩ | exact⟨Upd.refl _ _,C,rfl⟩ | skip
        ·rintro qz w' C ⟨D,U,-⟩;replace D:qz 10 = .int .u32 (bits .xor .u32 4294967295 e):=D;replace U:qz 11 = .int .u32 (g):=U;unfold qam;simp only[putL];go_simp
         first | exact⟨Upd.refl _ _,rfl⟩ | exact⟨Upd.refl _ _,C,rfl⟩ | skip
        ·rintro qz w' C ⟨D,U,-⟩;replace D:qz 8 = .int .u32 (bits .and .u32 e f):=D;replace U:qz 12 = .int .u32 (bits .and .u32 (bits .xor .u32 4294967295 e) g):=U;unfold qam;simp only[putL];go_simp
         first | exact⟨Upd.refl _ _,rfl⟩ | exact⟨Upd.refl _ _,C,rfl⟩ | skip
        ·rintro qz w' C ⟨D,U,-⟩;replace D:qz 5 = .int .u32 ((o+te)%4294967296):=D;replace U:qz 13 = .int .u32 (p):=U;unfold qam;simp only[putL];go_simp
         first | exact⟨Upd.refl _ _,rfl⟩ | exact⟨Upd.refl _ _,C,rfl⟩ | skip
        ·intro qz w' C _;unfold qam;simp only[putL];go_simp
         first | exact⟨Upd.refl _ _,rfl⟩ | exact⟨Upd.refl _ _,C,rfl⟩ | skip
        ·rintro qz w' C ⟨D,-⟩;replace D:qz 15 = .int .i64 (k:Int):=D;unfold qam;simp only[putL];go_simp
         first | exact⟨Upd.refl _ _,rfl⟩ | exact⟨Upd.refl _ _,C,rfl⟩ | skip
        ·rintro qz w' C ⟨D,-⟩;replace D:qz 16 = .pointer (some ⟨4,k,none⟩):=D;have qt:=qt C;unfold qam;simp only[putL];go_simp
         first | exact⟨Upd.refl _ _,rfl⟩ | exact⟨Upd.refl _ _,C,rfl⟩ | skip
        ·rintro qz w' C ⟨D,U,-⟩;replace D:qz 14 = .int .u32 ((o+te+p)%4294967296):=D;replace U:qz 17 = .int .u32 (kk):=U;unfold qam;simp only[putL];go_simp
         first | exact⟨Upd.refl _ _,rfl⟩ | exact⟨Upd.refl _ _,C,rfl⟩ | skip
        ·intro qz w' C _;unfold qam;simp only[putL];go_simp
         first | exact⟨Upd.refl _ _,rfl⟩ | exact⟨Upd.refl _ _,C,rfl⟩ | skip
        ·rintro qz w' C ⟨D,U,-⟩;replace D:qz 18 = .int .u32 ((o+te+p+kk)%4294967296):=D;replace U:qz 19 = .int .u32 (wk):=U;unfold qam;simp only[putL];go_simp
         first | exact⟨Upd.refl _ _,rfl⟩ | exact⟨Upd.refl _ _,C,rfl⟩ | skip
        ·rintro qz w' C ⟨D,-⟩;replace D:qz 20 = .int .u32 H:=D;unfold qam;simp only[putL];go_simp
         first | exact⟨Upd.refl _ _,rfl⟩ | exact⟨Upd.refl _ _,C,rfl⟩ | skip
       ·intro qz w9 n9 i2;have a8:=i2 21 (by decide);replace a8:qz 21 = .int .u32 H:=a8;clear i2;simp only[putL,a8];go_simp;clear a8;have e7:=(qg HV).upd n9 (fun h=>h);have u9:=ur.then n9 (fun _ _ h=>h.elim);have j5:=qj e7;obtain⟨⟨a0,d7⟩,-,-,⟨d0,m5⟩,-⟩:=qg BB;clear e7 HV v7 tk n9 c4 d3 f5 f6 d9 e3 BB e4 g5;obtain⟨wz,rfl⟩:∃wz:World,wz=w9:=⟨_,rfl⟩;go_wp2_with fail;refine(qlx a 2 13 22 _ _ _ (by decide) (by decide) (by decide) a0 d7 (by exact ql _ _)).mono ?_;rintro e2 l4 ⟨rfl,i7⟩;have i6:qq wz l4:=(((Upd.refl _ wz)).alloc _).trans (i7.upd _);clear i7;have E:=(qg j5).upd i6 (fun h=>h);have l3:=u9.then i6 (fun _ _ h=>h.elim);generalize g7:qcn a [2,13,22]=ta;have k0:∀m:Int,IntKind.u32.wrap (ta+m)=(ta+m)%4294967296:=fun m=>by rw[IntKind.wrap_u32]
        go_upto_region 23 with fail;generalize g2:bits .xor .u32 (bits .xor .u32 (bits .and .u32 a b) (bits .and .u32 a c)) (bits .and .u32 b c)=ma;have d1:zah a b c=(ta+ma)%4294967296:=by unfold zah za6;rw[g7,g2]
        obtain⟨two,g8⟩:∃two:Int,two=(ta+ma)%4294967296:=⟨_,rfl⟩;rw[←g8] at d1 ⊢;have e6:=qj d1;clear d1 g7 g2 g8 k0;have k1:IntKind.u32.wrap (H+two)=(H+two)%4294967296:=by rw[IntKind.wrap_u32]
        have k2:IntKind.u32.wrap (d+H)=(d+H)%4294967296:=by rw[IntKind.wrap_u32]
        have z:=fun i=>E.free i
        have v0:=E.cell (i:=0) (by simp);have v1:=E.cell (i:=1) (by simp);have v2:=E.cell (i:=2) (by simp);have v3:=E.cell (i:=3) (by simp);have v4:=E.cell (i:=4) (by simp);have v5:=E.cell (i:=5) (by simp);have v6:=E.cell (i:=6) (by simp);have v7:=E.cell (i:=7) (by simp);simp at v0 v1 v2 v3 v4 v5 v6 v7;have j6:=qj E;clear E;go_wp2_with fail;have T:=((((((((qg j6).set 0 ((H+two)%4294967296)).set 1 a).set 2 b).set 3 c).set 4 ((d+H)%4294967296)).set 5 e).set 6 f).set 7 g;have us:=(((((((l3.set1 0 (.int .u32 ((H+two)%4294967296))).set1 1 (.int .u32 a)).set1 2 (.int .u32 b)).set1 3 (.int .u32 c)).set1 4 (.int .u32 ((d+H)%4294967296))).set1 5 (.int .u32 e)).set1 6 (.int .u32 f)).set1 7 (.int .u32 g);have k7:qfq ws [J,K,I,M,N,O,P,R] (k+1)=[(H+two)%4294967296,a,b,c,(d+H)%4294967296,e,f,g]:=by
         rw[qg HN];simp only[qkv];rw[qg e5,qg e6]
        go_roundw
        case rel=>exact⟨k+1,by go_num,by omega,by rw[k7];exact T,us⟩
        case measure=>simp[intOf];omega
      ·obtain rfl:k=64:=by omega
       rw[show ((64:Nat):Int)=64 from rfl];have m2:=ur.size;have j1:=(Y.upd nV (fun h=>h)).upd ur (by omega);have j4:=(j3.upd nV (fun h=>h)).upd ur (by omega);have nn:=((nA.then u3 (by intro q hq h;rw[qg d2] at hq;omega)).trans nV).then ur (by intro q hq h;rw[qg d2] at hq;omega);have i3:=qum ws [J,K,I,M,N,O,P,R] 64 ⟨rfl,hu⟩;have HR:=qj (show qfq (qb2 s 48) [J,K,I,M,N,O,P,R] 64=qfq ws [J,K,I,M,N,O,P,R] 64 by rw[qg e9]);generalize qfq ws [J,K,I,M,N,O,P,R] 64=v at hV i3 HR;clear ur Y j3 u3 nV c8 HX vV TT;obtain⟨h8,V⟩:=i3;obtain⟨w6,rfl⟩:∃w6:World,w6=wr:=⟨_,rfl⟩;go_wp2_with fail
       go_loopw [25,156] (fun _ iv wr=>∃i:Nat,iv = .int .i64 (i:Int)∧i≤8∧qbl .u32 wr A (qc4 v [J,K,I,M,N,O,P,R] i)∧Upd (fun k=>k=A) w6 wr) (fun _ iv _=>8-(intOf iv).toNat)
       case atStart=>exact⟨0,rfl,by omega,by rw[qjb];exact j1,Upd.refl _ _⟩
       case round =>
        obtain⟨i,rfl,hi,hA,ur⟩:=hrel;by_cases l8:i<8
        ·have b8:=qiu v [J,K,I,M,N,O,P,R] i ⟨rfl,hu⟩;have t:=qja v [J,K,I,M,N,O,P,R] i;unfold qq4 at t;have c0:=hA.cell (i:=i) (by omega);have z0:=hA.free i;have c1:=(hV.upd ur (by omega)).cell (i:=i) (by omega);obtain⟨a0,d7⟩:=b8.2.at i;obtain⟨b0,j7⟩:=V.at i;have T:=hA.set i ((wd (qc4 v [J,K,I,M,N,O,P,R] i) i+wd v i)%4294967296);rw[←t] at T;have Z:=qj T;clear T t b8 hA;change wr.cell? _=some (.int .u32 (wd (qc4 v [J,K,I,M,N,O,P,R] i) i)) at c0;change wr.cell? _=some (.int .u32 (wd v i)) at c1;generalize wd (qc4 v [J,K,I,M,N,O,P,R] i) i=x at c0 a0 d7 Z;generalize wd v i=y at c1 b0 j7 Z;have c4:IntKind.u32.wrap (x+y)=(x+y)%4294967296:=by rw[IntKind.wrap_u32]
         have f1:(i:Int)<8:=by omega
         have d8:(i:Int).toNat=i:=by omega
         go_wp2_with fail;go_region_law (fail)
         all_goals
          have us:=ur.set1 i (.int .u32 ((x+y)%4294967296));have b9:=qg Z;generalize wr.setCell ⟨A,i,none⟩ (.int .u32 ((x+y)%4294967296))=wS at *
          go_wp2;go_roundw
          case rel=>exact⟨i+1,by go_num,by omega,(b9:qbl .u32 wS _ _),us.drew⟩
          case measure=>simp[intOf];omega
        ·obtain rfl:i=8:=by omega
         rw[show ((8:Nat):Int)=8 from rfl];have c5:qte [J,K,I,M,N,O,P,R] s=qc4 v [J,K,I,M,N,O,P,R] 8:=by unfold qte;rw[qg HR]
         have b8:=qiu v [J,K,I,M,N,O,P,R] 8 ⟨rfl,hu⟩;have X:=j4.upd ur (by omega);have k9:=nn.then ur (by intro q hq h;rw[qg d2] at hq;omega);generalize hr:qc4 v [J,K,I,M,N,O,P,R] 8=r at hA b8;rw[hr] at c5;clear hr HR j1 j4 ur nn hV e9;obtain⟨r8,-⟩:=b8;obtain⟨a,b,c,d,e,f,g,o,rfl⟩:=qcl r8;have HF:=qj c5;clear r8 c5;have z:=fun i=>X.free i
         have y0:=X.cell (i:=0) (by simp);have y1:=X.cell (i:=1) (by simp);have y2:=X.cell (i:=2) (by simp);have y3:=X.cell (i:=3) (by simp);have y4:=X.cell (i:=4) (by simp);have y5:=X.cell (i:=5) (by simp);have y6:=X.cell (i:=6) (by simp);have y7:=X.cell (i:=7) (by simp);have v0:=hA.cell (i:=0) (by simp);have v1:=hA.cell (i:=1) (by simp);have v2:=hA.cell (i:=2) (by simp);have v3:=hA.cell (i:=3) (by simp);have v4:=hA.cell (i:=4) (by simp);have v5:=hA.cell (i:=5) (by simp);have v6:=hA.cell (i:=6) (by simp);have v7:=hA.cell (i:=7) (by simp);simp at v0 v1 v2 v3 v4 v5 v6 v7 y0 y1 y2 y3 y4 y5 y6 y7;have HB:=qj X;clear X hA;obtain⟨wy,rfl⟩:∃wy:World,wy=wr:=⟨_,rfl⟩;go_wp2_with fail;have hB:=((((((((qg HB).set 0 a).set 1 b).set 2 c).set 3 d).set 4 e).set 5 f).set 6 g).set 7 o;have nB:=((((((((Upd.refl (fun k=>k=A+1) wy).set1 0 (.int .u32 a)).set1 1 (.int .u32 b)).set1 2 (.int .u32 c)).set1 3 (.int .u32 d)).set1 4 (.int .u32 e)).set1 5 (.int .u32 f)).set1 6 (.int .u32 g)).set1 7 (.int .u32 o);have nE:=k9.then nB (by intro q hq h;rw[qg d2] at hq;omega);replace hB:qbl .u32 _ (A+1) [a,b,c,d,e,f,g,o]:=hB;obtain⟨TB,hB⟩:=hB;refine bodyPost_ret (qma rfl _ _ (A+1) TB _ _ _ rfl hB Tryz.underlying295 rfl (by exact Tryz.infoW8)) rfl ?_;refine⟨?_,nE⟩;rw[qg HF];rfl
end Go.Proofs.YtfmkdoachjgjbaaGreatDoor
