/-
  Package digest: Compress.
-/
import Derived.Test.YtfmkdoachjgjbaaGreatDoorMaa
import Derived.BigRegion
import Derived.Deep.RegionLaw
import Derived.Deep.CutRange
import Derived.Deep.DrawnRows
import Derived.IntWalk
import Derived.Laws.ResultCell
set_option maxRecDepth 100000
set_option maxHeartbeats 4000000
set_option linter.unusedVariables false
set_option linter.unusedSimpArgs false
namespace Go.Proofs.YtfmkdoachjgjbaaGreatDoor
open Go.RowKit
def wd(ws:List Int)(i:Nat):Int:=ws.getD i 0
def qos(s:ByteArray)(ws:List Int)(k:Nat):List Int:=ws.set (k / 4) (bits .or .u32 (wd ws (k / 4)*256%4294967296) (bt s k))
def qa4(s:ByteArray)(n:Nat):List Int:=(List.range n).foldl (qos s) (List.replicate 64 0)
theorem qed(s:ByteArray)(n:Nat):qa4 s (n+1)=qos s (qa4 s n) n:=by simp[qa4,List.range_succ]
theorem qgj(s:ByteArray)(n:Nat):(qa4 s n).length=64:=by
 induction n with
 | zero=>simp[qa4]
 | succ n f=>rw[qed];simp[qos,f]
def qen(ws:List Int):Prop:=∀x∈ws,0≤x∧x<4294967296
theorem qen.at{ws:List Int}(h:qen ws)(i:Nat):0≤wd ws i∧wd ws i<4294967296:=by
 unfold wd;rw[List.getD_eq_getElem?_getD];cases f:ws[i]? with
 | none=>simp
 | some x=>exact h x (List.mem_of_getElem? f)
theorem qen.set{ws:List Int}(h:qen ws)(i:Nat){x:Int}(m:0≤x∧x<4294967296):qen (ws.set i x):=by
 intro y f;rcases List.mem_or_eq_of_mem_set f with f | rfl
 ·exact h y f
 ·exact m
theorem qml(s:ByteArray)(n:Nat):qen (qa4 s n):=by
 induction n with
 | zero=>intro x f;simp[qa4] at f;omega
 | succ n i=>rw[qed];exact i.set _ (qbv ..)
def qil:List Int:=[1116352408,1899447441,3049323471,3921009573,961987163,1508970993,2453635748,2870763221,3624381080,310598401,607225278,1426881987,1925078388,2162078206,2614888103,3248222580,3835390401,4022224774,264347078,604807628,770255983,1249150122,1555081692,1996064986,2554220882,2821834349,2952996808,3210313671,3336571891,3584528711,113926993,338241895,666307205,773529912,1294757372,1396182291,1695183700,1986661051,2177026350,2456956037,2730485921,2820302411,3259730800,3345764771,3516065817,3600352804,4094571909,275423344,430227734,506948616,659060556,883997877,958139571,1322822218,1537002063,1747873779,1955562222,2024104815,2227730452,2361852424,2428436474,2756734187,3204031479,3329325298]
def qhz:List Int:=[1779033703,3144134277,1013904242,2773480762,1359893119,2600822924,528734635,1541459225]
structure Tabs(w:World):Prop where
 table:∀i,i<64→w.cell? ⟨4,i,none⟩=some (.int .u32 (qil.getD i 0))
 start:∀i,i<8→w.cell? ⟨1,i,none⟩=some (.int .u32 (qhz.getD i 0))
theorem Tabs.upd{S:Nat→Prop}{w w':World}(h:Tabs w)(u:Upd S w w')(m:¬S 4)(p:¬S 1):Tabs w':=⟨fun i f=>u.cell (h.table i f) m,fun i f=>u.cell (h.start i f) p⟩
theorem Tabs.lt{w:World}(h:Tabs w):4<w.heap.size∧1<w.heap.size:=⟨World.block_lt_of_cell? w _ (h.table 0 (by decide)),World.block_lt_of_cell? w _ (h.start 0 (by decide))⟩
theorem Tabs.new{w w':World}(h:Tabs w)(u:qu w w'):Tabs w':=h.upd u (fun h=>h) (fun h=>h)
theorem qul:qen qil:=by unfold qen qil;decide
def qvm(x:Int):Int:=bits .xor .u32 (qbz x [7,18]) (x / 8)
def qvn(y:Int):Int:=bits .xor .u32 (qbz y [17,19]) (y / 1024)
def qo4(ws:List Int)(j:Nat):List Int:=ws.set (j+16) ((wd ws j+qvm (wd ws (j+1))+wd ws (j+9)+qvn (wd ws (j+14)))%4294967296)
def qav(s:ByteArray)(n:Nat):List Int:=(List.range n).foldl qo4 (qa4 s 64)
theorem qfn(s:ByteArray):qav s 0=qa4 s 64:=by unfold qav;simp only[List.range_zero,List.foldl_nil]
theorem qfm(s:ByteArray)(n:Nat):qav s (n+1)=qo4 (qav s n) n:=by simp[qav,List.range_succ]
theorem qda(s:ByteArray)(n:Nat):(qav s n).length=64:=by
 induction n with
 | zero=>rw[qfn];exact qgj s 64
 | succ n f=>rw[qfm];simp[qo4,f]
theorem qgm(s:ByteArray)(n:Nat):qen (qav s n):=by
 induction n with
 | zero=>rw[qfn];exact qml s 64
 | succ n f=>rw[qfm];exact f.set _ (by omega)
def chI(e f g:Int):Int:=bits .xor .u32 (bits .and .u32 e f) (bits .and .u32 (bits .xor .u32 4294967295 e) g)
def qxp(a b c:Int):Int:=bits .xor .u32 (bits .xor .u32 (bits .and .u32 a b) (bits .and .u32 a c)) (bits .and .u32 b c)
def q2h(e f g h k w:Int):Int:=(h+qbz e [6,11,25]+chI e f g+k+w)%4294967296
def q8d(a b c:Int):Int:=(qbz a [2,13,22]+qxp a b c)%4294967296
def qke(ws:List Int):List Int→Nat→List Int
 | [a,b,c,d,e,f,g,h],k=>[(q2h e f g h (qil.getD k 0) (wd ws k)+q8d a b c)%4294967296,a,b,c,(d+q2h e f g h (qil.getD k 0) (wd ws k))%4294967296,e,f,g]
 | v,_=>v
def qea(ws v:List Int)(n:Nat):List Int:=(List.range n).foldl (qke ws) v
theorem qkd(ws v:List Int):qea ws v 0=v:=by unfold qea;simp only[List.range_zero,List.foldl_nil]
theorem qkc(ws v:List Int)(n:Nat):qea ws v (n+1)=qke ws (qea ws v n) n:=by simp[qea,List.range_succ]
theorem qb0{l:List Int}(h:l.length=8):∃a b c d e f g i,l=[a,b,c,d,e,f,g,i]:=by
 match l,h with
 | [a,b,c,d,e,f,g,i],_=>exact⟨a,b,c,d,e,f,g,i,rfl⟩
theorem q2r(ws:List Int)(v:List Int)(k:Nat)(h:v.length=8∧qen v):(qke ws v k).length=8∧qen (qke ws v k):=by
 obtain⟨q,m⟩:=h;obtain⟨a,b,c,d,e,f,g,i,rfl⟩:=qb0 q;refine⟨rfl,?_⟩;intro x p;simp only[qke,List.mem_cons,List.not_mem_nil,or_false] at p;rcases p with rfl | rfl | rfl | rfl | rfl | rfl | rfl | rfl
 ·omega
 ·exact m _ (by simp)
 ·exact m _ (by simp)
 ·exact m _ (by simp)
 ·omega
 ·exact m _ (by simp)
 ·exact m _ (by simp)
 ·exact m _ (by simp)
theorem qk9(ws v:List Int)(n:Nat)(h:v.length=8∧qen v):(qea ws v n).length=8∧qen (qea ws v n):=by
 induction n with
 | zero=>rw[qkd];exact h
 | succ n f=>rw[qkc];exact q2r _ _ _ f
def qnx(v f:List Int)(i:Nat):List Int:=f.set i ((wd f i+wd v i)%4294967296)
def qb8(v f:List Int)(n:Nat):List Int:=(List.range n).foldl (qnx v) f
theorem qho(v f:List Int):qb8 v f 0=f:=by unfold qb8;simp only[List.range_zero,List.foldl_nil]
theorem qhn(v f:List Int)(n:Nat):qb8 v f (n+1)=qnx v (qb8 v f n) n:=by simp[qb8,List.range_succ]
theorem qfu(v f:List Int)(n:Nat)(h:f.length=8∧qen f):(qb8 v f n).length=8∧qen (qb8 v f n):=by
 induction n with
 | zero=>rw[qho];exact h
 | succ n i=>rw[qhn];exact⟨by simp[qnx,i.1],i.2.set _ (by omega)⟩
def q91(xs:List Value)(f:Array Value)(i:Nat)(v:Value)(w:World):Prop:=if i=3 then ∃g T,v = .slice (some ⟨g,0,none⟩) 3 3∧w.heap[g]? = some (.cells f T (0,0)) else v=xs.getD i undef
theorem q7a{xs:List Value}{m:Array Value}(i:Nat)(v:Value){w w':World}(n:qu w w')(h:q91 xs m i v w):q91 xs m i v w':=by
 unfold q91 at h ⊢;split
 ·rename_i f;rw[if_pos f] at h;obtain⟨g,T,e,p⟩:=h;exact⟨g,T,e,n.old p (fun h=>h)⟩
 ·rename_i f;rw[if_neg f] at h;exact h
theorem qbd.of{k:IntKind}{w:World}{b:Nat}{ws:List Int}{T:TypeId}{C:Array Value}(h:w.heap[b]? = some (.cells C T (0,0)))(e:C=(ws.map (Value.int k)).toArray):qbd k w b ws:=⟨T,by rw[h,e]⟩
theorem Tryz.infoW64:(Tryz.prog.info? 321).map (·.size)=some 64:=by kernel_rfl
def za9(x:Value):Sem Value:=Instr.loadAt 321 x
theorem qup(x:Value):Instr.loadAt 321 x=za9 x:=rfl
theorem zcc(b o:Nat)(w:World):(za9 (.pointer (some ⟨b,o,none⟩))).run Tryz.prog w=match zj w b o 64 with | some A=> .ok (.agg A) w | none=>qc6 Tryz.prog 321 w b o :=
 zy 321 64 _ Tryz.underlying321 rfl Tryz.infoW64 b o w
theorem qbd.row{k:IntKind}{w:World}{b:Nat}{ws:List Int}(h:qbd k w b ws){n:Nat}(f:ws.length=n):zj w b 0 n=some (ws.map (Value.int k)).toArray:=by
 obtain⟨T,h⟩:=h;exact qai h n (by simp[f])
attribute [local go_sem ↓ high] qup
attribute [local go_sem] zcc
attribute [local go_sem ↓] Go.wp_at_zero Go.wp_at_succ
theorem qig{P:Program}{i:Func}{p u:Tmp}{f:TypeId}(h:i.results=#[.cell p f,.tmp u])(tmps:Array Value)(w:World)(g:Nat)(t:TypeId)(cs:Array Value)(fr:Nat × Nat)(d:TypeDesc)
  (v:tmps.getD p undef = .pointer (some ⟨g,0,none⟩)) (m:w.heap[g]? = some (.cells cs t fr))
  (z:P.underlying f=some d) (hd:(match d with | .struct _ | .array _ _=>true | _=>false)=true) (q:(P.info? f).map (·.size)=some cs.size) :
  (results i tmps).run P w = .ok (.tuple #[.agg cs,tmps.getD u undef]) w:=by
 rw[results_cell_tmp h,v]
 simp[asAddr,run_loadVar_row w g t f cs fr d m z hd q,Result.andThen]
theorem Tryz.infoW8:(Tryz.prog.info? 295).map (·.size)=some 8:=by kernel_rfl
def qkq(h:List Int)(s:ByteArray):List Int:=qb8 (qea (qav s 48) h 64) h 8
theorem qr9(h:List Int)(s:ByteArray)(f:h.length=8∧qen h):(qkq h s).length=8∧qen (qkq h s):=qfu _ _ _ f
theorem qr6(h:List Int)(s:ByteArray)(w:World)(hh:h.length=8)(hu:qen h)(hs:s.size=64)(g5:Tabs w) :
  Calls Tryz.prog 212 #[.agg (h.map (Value.int .u32)).toArray,.string s] w fun e w'=>e = .returned (.tuple #[.agg ((qkq h s).map (Value.int .u32)).toArray,.bool true])∧qu w w':=by
 have hw:=g5.lt
 obtain⟨L,M,K,N,O,P,R,S,rfl⟩:∃a b c d e f g i,h=[a,b,c,d,e,f,g,i]:=by
  match h,hh with
  | [a,b,c,d,e,f,g,i],_=>exact⟨a,b,c,d,e,f,g,i,rfl⟩
 simp only[List.map_cons,List.map_nil]
 go_enter Tryz.func212,Tryz.ntmps212
 go_upto_region 4 with fail
 obtain⟨wA,c2⟩:∃wA:World,wA=((w.alloc (.cells #[.int .u32 L,.int .u32 M,.int .u32 K,.int .u32 N,.int .u32 O,.int .u32 P,.int .u32 R,.int .u32 S] 295)).alloc (.cells #[.int .u32 0,.int .u32 0,.int .u32 0,.int .u32 0,.int .u32 0,.int .u32 0,.int .u32 0,.int .u32 0] 295)).alloc (.cells #[.int .u32 0,.int .u32 0,.int .u32 0,.int .u32 0,.int .u32 0,.int .u32 0,.int .u32 0,.int .u32 0,.int .u32 0,.int .u32 0,.int .u32 0,.int .u32 0,.int .u32 0,.int .u32 0,.int .u32 0,.int .u32 0,.int .u32 0,.int .u32 0,.int .u32 0,.int .u32 0,.int .u32 0,.int .u32 0,.int .u32 0,.int .u32 0,.int .u32 0,.int .u32 0,.int .u32 0,.int .u32 0,.int .u32 0,.int .u32 0,.int .u32 0,.int .u32 0,.int .u32 0,.int .u32 0,.int .u32 0,.int .u32 0,.int .u32 0,.int .u32 0,.int .u32 0,.int .u32 0,.int .u32 0,.int .u32 0,.int .u32 0,.int .u32 0,.int .u32 0,.int .u32 0,.int .u32 0,.int .u32 0,.int .u32 0,.int .u32 0,.int .u32 0,.int .u32 0,.int .u32 0,.int .u32 0,.int .u32 0,.int .u32 0,.int .u32 0,.int .u32 0,.int .u32 0,.int .u32 0,.int .u32 0,.int .u32 0,.int .u32 0,.int .u32 0] 321):=⟨_,rfl⟩
 have sA:wA.heap.size=w.heap.size+3:=by rw[c2];simp
 have nA:qu w wA:=by rw[c2];exact(((Upd.refl _ _).alloc _).alloc _).alloc _
 have vA:qbd .u32 wA w.heap.size [L,M,K,N,O,P,R,S]:=by rw[c2];exact⟨_,qq (qq (qh _ _) _) _⟩
 have vB:qbd .u32 wA (w.heap.size+1) [0,0,0,0,0,0,0,0]:=by
  rw[c2];have:=qh (w.alloc (.cells #[.int .u32 L,.int .u32 M,.int .u32 K,.int .u32 N,.int .u32 O,.int .u32 P,.int .u32 R,.int .u32 S] 295)) (.cells #[.int .u32 0,.int .u32 0,.int .u32 0,.int .u32 0,.int .u32 0,.int .u32 0,.int .u32 0,.int .u32 0] 295);rw[World.size_alloc] at this;exact⟨_,qq this _⟩
 have vW:qbd .u32 wA (w.heap.size+1+1) (List.replicate 64 0):=by
  rw[c2];have:=qh ((w.alloc (.cells #[.int .u32 L,.int .u32 M,.int .u32 K,.int .u32 N,.int .u32 O,.int .u32 P,.int .u32 R,.int .u32 S] 295)).alloc (.cells #[.int .u32 0,.int .u32 0,.int .u32 0,.int .u32 0,.int .u32 0,.int .u32 0,.int .u32 0,.int .u32 0] 295)) (.cells #[.int .u32 0,.int .u32 0,.int .u32 0,.int .u32 0,.int .u32 0,.int .u32 0,.int .u32 0,.int .u32 0,.int .u32 0,.int .u32 0,.int .u32 0,.int .u32 0,.int .u32 0,.int .u32 0,.int .u32 0,.int .u32 0,.int .u32 0,.int .u32 0,.int .u32 0,.int .u32 0,.int .u32 0,.int .u32 0,.int .u32 0,.int .u32 0,.int .u32 0,.int .u32 0,.int .u32 0,.int .u32 0,.int .u32 0,.int .u32 0,.int .u32 0,.int .u32 0,.int .u32 0,.int .u32 0,.int .u32 0,.int .u32 0,.int .u32 0,.int .u32 0,.int .u32 0,.int .u32 0,.int .u32 0,.int .u32 0,.int .u32 0,.int .u32 0,.int .u32 0,.int .u32 0,.int .u32 0,.int .u32 0,.int .u32 0,.int .u32 0,.int .u32 0,.int .u32 0,.int .u32 0,.int .u32 0,.int .u32 0,.int .u32 0,.int .u32 0,.int .u32 0,.int .u32 0,.int .u32 0,.int .u32 0,.int .u32 0,.int .u32 0,.int .u32 0] 321);rw[World.size_alloc,World.size_alloc] at this;exact⟨_,this⟩
 rw[←c2]
 clear c2
 have TA:=g5.new nA
 generalize f6:w.heap.size=A at *
 have d2:=qb f6
 clear f6
 have n7:A+3≤wA.heap.size:=by omega
 clear sA
 obtain⟨wo,rfl⟩:∃wo:World,wo=wA:=⟨_,rfl⟩
 go_wp2_with fail
 go_loopw [7,30] (fun _ iv wr=>∃k:Nat,iv = .int .i64 (k:Int)∧k≤64∧qbd .u32 wr (A+1+1) (qa4 s k)∧Upd (fun k=>k=A+1+1) wo wr) (fun _ iv _=>64-(intOf iv).toNat)
 case atStart=>exact⟨0,rfl,by omega,vW,Upd.refl _ _⟩
 case round =>
  obtain⟨k,rfl,hk,hW,ur⟩:=hrel;by_cases n4:k<64
  ·have c6:=qgj s k;have c0:=hW.cell (i:=k / 4) (by omega);have z0:=hW.free (k / 4);have T:=hW.set (k / 4) (bits .or .u32 (wd (qa4 s k) (k / 4)*256%4294967296) (bt s k));obtain⟨k3,k4⟩:=(qml s k).at (k / 4);rw[show (qa4 s k).set (k / 4) (bits .or .u32 (wd (qa4 s k) (k / 4)*256%4294967296) (bt s k))=qa4 s (k+1) from(qed s k).symm] at T;change wr.cell? _=some (.int .u32 (wd (qa4 s k) (k / 4))) at c0;have k5:∀W:World,(Instr.index 9 (.string s) (.int .i64 (k:Int))).run Tryz.prog W = .ok (.int .u8 (bt s k)) W:=fun W=>qeh _ s _ _ k Tryz.underlying9 rfl (by omega) W
   obtain⟨g9,h9⟩:=qfe s k;have f0:(k:Int)<64:=by omega
   have d8:((k:Int) / 4).toNat=k / 4:=by omega
   have f1:(0:Int)≤(k:Int) / 4:=by omega
   have f2:(k:Int) / 4<64:=by omega
   have f3:IntKind.i64.wrap ((k:Int) / 4)=(k:Int) / 4:=IntWalk.i64_in _ (by omega);have Z:=qb T;clear T c6 hW;generalize wd (qa4 s k) (k / 4)=x at c0 k3 k4 Z;generalize bt s k=y at k5 g9 h9 Z;have c4:IntKind.u32.wrap (x*256)=x*256%4294967296:=by rw[IntKind.wrap_u32]
   have d3:IntKind.u32.wrap y=y:=IntWalk.u32_in _ (by omega);go_wp2_with fail;go_region_law (fail)
   all_goals
    have us:=ur.set1 (k / 4) (.int .u32 (bits .or .u32 (x*256%4294967296) y));have b9:=qa Z;generalize wr.setCell ⟨A+1+1,k / 4,none⟩ (.int .u32 (bits .or .u32 (x*256%4294967296) y))=wS at *
    go_wp2;go_roundw
    case rel=>exact⟨k+1,by go_num,by omega,(b9:qbd .u32 wS _ _),us.drew⟩
    case measure=>simp[intOf];omega
  ·obtain rfl:k=64:=by omega
   rw[show ((64:Nat):Int)=64 from rfl];have i9:=vA.upd ur (by omega);have j1:=vB.upd ur (by omega);have m0:=ur.size;have u0:=ur;clear vA vB vW ur;obtain⟨w2,rfl⟩:∃w2:World,w2=wr:=⟨_,rfl⟩;go_wp2_with fail
   go_loopw [8,9,10,11,12] (fun iv _ _ _ _ wr=>∃j:Nat,iv = .int .i64 ((j:Int)+16)∧j≤48∧qbd .u32 wr (A+1+1) (qav s j)∧Upd (fun k=>k=A+1+1) w2 wr) (fun iv _ _ _ _ _=>64-(intOf iv).toNat)
   case atStart=>exact⟨0,rfl,by omega,by rw[qfn];exact hW,Upd.refl _ _⟩
   case round =>
    clear hW;obtain⟨j,rfl,hj,hW,ur⟩:=hrel;by_cases l8:j<48
    ·have c6:=qda s j;have hr:=qgm s j;have c1:wr.cell? ⟨A+1+1,j+1,none⟩=some (.int .u32 (wd (qav s j) (j+1))):=hW.cell (by omega);have e9:wr.cell? ⟨A+1+1,j+14,none⟩=some (.int .u32 (wd (qav s j) (j+14))):=hW.cell (by omega);obtain⟨r1,i7⟩:=hr.at (j+1);obtain⟨i8,d6⟩:=hr.at (j+14);obtain⟨r0,k9⟩:=hr.at j;obtain⟨r9,l0⟩:=hr.at (j+9);have E:=qfm s j;unfold qo4 qvm qvn at E;have HN:=qb E;have HW:=qb hW;have f0:(j:Int)<48:=by omega
     have d8:IntKind.i64.wrap ((j:Int)+16-15)=(j:Int)+1:=by rw[IntWalk.i64_in _ (by omega)];omega
     have f1:IntKind.i64.wrap ((j:Int)+16-2)=(j:Int)+14:=by rw[IntWalk.i64_in _ (by omega)];omega
     have f2:((j:Int)+1).toNat=j+1:=by omega
     have f3:((j:Int)+14).toNat=j+14:=by omega
     clear hW hr c6 E;generalize hx:wd (qav s j) (j+1)=x at c1 r1 i7 HN;generalize hy:wd (qav s j) (j+14)=y at e9 i8 d6 HN;clear hx hy;go_wp2_with fail;go_quiet (fail);go_wp2_with fail;refine(qrd x 7 18 _ _ _ (by decide) (by decide) r1 i7 (by exact qh _ _)).mono ?_;rintro e w5 ⟨rfl,q5⟩;have n5:qu wr w5:=(((Upd.refl _ wr).drewN _).alloc _).trans (q5.upd _);clear q5;go_wp2_with fail;refine(qrd y 17 19 _ _ _ (by decide) (by decide) i8 d6 (by exact qh _ _)).mono ?_;rintro e w6 ⟨rfl,q6⟩;have n6:qu wr w6:=n5.trans (((Upd.refl _ w5).alloc _).trans (q6.upd _));clear n5 q6 c1 e9;have c3:=(qa HW).upd n6 (fun h=>h);have c0:w6.cell? ⟨A+1+1,j,none⟩=some (.int .u32 (wd (qav s j) j)):=c3.cell (by rw[qda];omega);have c9:w6.cell? ⟨A+1+1,j+9,none⟩=some (.int .u32 (wd (qav s j) (j+9))):=c3.cell (by rw[qda];omega);obtain⟨n8,m6⟩:∃v,w6.cell? ⟨A+1+1,j+16,none⟩=some v:=⟨_,c3.cell (by rw[qda];omega)⟩;have o0:=c3.free (j+16);go_upto_region 15 with fail;obtain⟨p0,p1⟩:=qbv .xor (qbz x [7,18]) (x / 8);obtain⟨p2,p3⟩:=qbv .xor (qbz y [17,19]) (y / 1024);generalize bits .xor .u32 (qbz x [7,18]) (x / 8)=p at HN p0 p1 ⊢;generalize bits .xor .u32 (qbz y [17,19]) (y / 1024)=q at HN p2 p3 ⊢;generalize wd (qav s j) j=a at c0 r0 k9 HN;generalize wd (qav s j) (j+9)=b at c9 r9 l0 HN;have T:=c3.set (j+16) ((a+p+b+q)%4294967296);rw[←qa HN] at T;have Z:=qb T;have u6:=ur.then n6 (fun _ _ h=>h.elim);clear T c3 n6 HW HN d8 f1 f2 f3;have c4:IntKind.i64.wrap (j:Int)=(j:Int):=IntWalk.i64_in _ (by omega);have d3:IntKind.i64.wrap ((j:Int)+16-7)=(j:Int)+9:=by rw[IntWalk.i64_in _ (by omega)];omega
     have m8:(j:Int)<64:=by omega
     have m9:(j:Int)+9<64:=by omega
     have n0:(j:Int)+16<64:=by omega
     have n1:(0:Int)≤(j:Int)+9:=by omega
     have n2:(0:Int)≤(j:Int)+16:=by omega
     have f4:((j:Int)+9).toNat=j+9:=by omega
     have f5:((j:Int)+16).toNat=j+16:=by omega
     have d9:IntKind.u32.wrap (a+p)=(a+p)%4294967296:=by rw[IntKind.wrap_u32]
     have e0:IntKind.u32.wrap ((a+p)%4294967296+b)=(a+p+b)%4294967296:=by rw[IntKind.wrap_u32];omega
     have j9:IntKind.u32.wrap ((a+p+b)%4294967296+q)=(a+p+b+q)%4294967296:=by rw[IntKind.wrap_u32];omega
     go_wp2_with fail;go_region_law (fail)
     all_goals
      have us:=u6.set1 (j+16) (.int .u32 ((a+p+b+q)%4294967296));have b9:=qa Z;generalize w6.setCell ⟨A+1+1,j+16,none⟩ (.int .u32 ((a+p+b+q)%4294967296))=wS at *
      clear d9 e0 j9 c4 d3;go_wp2;go_roundw
      case rel=>exact⟨j+1,by first | (rw[show ((j+1:Nat):Int)+16=(j:Int)+16+1 by omega];done) | (simp;omega),by omega,(b9:qbd .u32 wS _ _),us.drew⟩
      case measure=>simp[intOf];omega
    ·obtain rfl:j=48:=by omega
     rw[show ((48:Nat):Int)+16=64 from rfl];have Y:=i9.upd ur (by omega);have j2:=j1.upd ur (by omega);have u3:=u0.trans ur;have m3:=ur.size;obtain⟨w3,rfl⟩:∃w3:World,w3=wr:=⟨_,rfl⟩;have a0:=Y.cell (i:=0) (by simp);have a1:=Y.cell (i:=1) (by simp);have a2:=Y.cell (i:=2) (by simp);have a3:=Y.cell (i:=3) (by simp);have a4:=Y.cell (i:=4) (by simp);have a5:=Y.cell (i:=5) (by simp);have a6:=Y.cell (i:=6) (by simp);have a7:=Y.cell (i:=7) (by simp);simp at a0 a1 a2 a3 a4 a5 a6 a7;have e7:=qb hW;clear i9 j1 u0 ur hW;have i0:=(qa e7).row (qda s 48);go_upto_region 17 with fail;have vV:=qbd.of (k:= .u32) (ws:=[L,M,K,N,O,P,R,S]) (qh w3 (.cells #[.int .u32 L,.int .u32 M,.int .u32 K,.int .u32 N,.int .u32 O,.int .u32 P,.int .u32 R,.int .u32 S] 295)) rfl;have nV:qu w3 (w3.alloc (.cells #[.int .u32 L,.int .u32 M,.int .u32 K,.int .u32 N,.int .u32 O,.int .u32 P,.int .u32 R,.int .u32 S] 295)):=(Upd.refl _ _).alloc _;generalize w3.alloc (.cells #[.int .u32 L,.int .u32 M,.int .u32 K,.int .u32 N,.int .u32 O,.int .u32 P,.int .u32 R,.int .u32 S] 295)=w4 at vV nV ⊢;have c8:=qbc i0 nV (fun h=>h);have k7:=qda s 48;have i4:=qgm s 48;have m5:=vV.lt;have m2:=nV.size;have TT:=(TA.upd u3 (by omega) (by omega)).new nV;clear i0 e7 a0 a1 a2 a3 a4 a5 a6 a7;generalize i3:qav s 48=ws at c8 k7 i4;have e8:=qb i3;clear i3;generalize f7:(ws.map (Value.int .u32)).toArray=Cw at c8;have d4:∀(k:Nat) (W:World),k<64→(Instr.index 321 (.agg Cw) (.int .i64 (k:Int))).run Tryz.prog W = .ok (.int .u32 (wd ws k)) W:=by
      intro k W hk;have e1:Cw[k]? = some (.int .u32 (wd ws k)):=by
       rw[←f7,List.getElem?_toArray,List.getElem?_map,List.getElem?_eq_getElem (by omega),wd,List.getD_eq_getElem?_getD,List.getElem?_eq_getElem (by omega)];rfl
      have K:0≤(k:Int)∧(k:Int)<((64:Nat):Int):=by omega
      simp[Instr.index,run_underlying Tryz.underlying321,asIntOf,K,e1,go_sem];intro l7;omega
     have HX:=qb d4;clear d4 f7;obtain⟨w5,rfl⟩:∃w5:World,w5=w4:=⟨_,rfl⟩;go_wp2_with fail
     go_loopw [14,15,16,17,18,19,20,21,22,23,24,88] (fun _ _ _ _ _ _ _ _ _ _ _ iv wr=>∃k:Nat,iv = .int .i64 (k:Int)∧k≤64∧qbd .u32 wr w3.heap.size (qea ws [L,M,K,N,O,P,R,S] k)∧Upd (fun k=>k=w3.heap.size) w5 wr) (fun _ _ _ _ _ _ _ _ _ _ _ iv _=>64-(intOf iv).toNat)
     case atStart=>exact⟨0,rfl,by omega,by rw[qkd];exact vV,Upd.refl _ _⟩
     case round =>
      obtain⟨k,rfl,hk,hV,ur⟩:=hrel;by_cases d5:k<64
      ·have b8:=qk9 ws [L,M,K,N,O,P,R,S] k ⟨rfl,hu⟩;have E:=qkc ws [L,M,K,N,O,P,R,S] k;generalize hv:qea ws [L,M,K,N,O,P,R,S] k=v at hV b8 E;clear hv;obtain⟨h8,V⟩:=b8;obtain⟨a,b,c,d,e,f,g,C,rfl⟩:=qb0 h8;clear h8;have HN:=qb E;have v0:=hV.cell (i:=0) (by simp);have v1:=hV.cell (i:=1) (by simp);have v2:=hV.cell (i:=2) (by simp);have v3:=hV.cell (i:=3) (by simp);have v4:=hV.cell (i:=4) (by simp);have v5:=hV.cell (i:=5) (by simp);have v6:=hV.cell (i:=6) (by simp);have v7:=hV.cell (i:=7) (by simp);simp at v0 v1 v2 v3 v4 v5 v6 v7;have HV:=qb hV;clear E hV;have ix:=qa HX k wr d5;have tk:=(TT.upd ur (by omega) (by omega)).table k d5;obtain⟨t0,l3⟩:=qul.at k;obtain⟨x0,l6⟩:=i4.at k;change wr.cell? _=some (.int .u32 (wd qil k)) at tk;generalize f8:wd qil k=kk at tk t0 l3;generalize g8:wd ws k=wk at ix x0 l6;have b0:=V a (by simp);have b1:=V b (by simp);have b2:=V c (by simp);have b3:=V d (by simp);have b4:=V e (by simp);have b5:=V f (by simp);have b6:=V g (by simp);have b7:=V C (by simp);obtain⟨j7,j8⟩:=b4;have BB:=qb (And.intro b0 (And.intro b1 (And.intro b2 (And.intro b3 (And.intro b5 (And.intro b6 b7))))));clear b0 b1 b2 b3 b5 b6 b7;have n3:(k:Int)<64:=by omega
       clear V;obtain⟨wq,rfl⟩:∃wq:World,wq=wr:=⟨_,rfl⟩;go_wp2_with fail;go_quiet (fail);clear v0 v1 v2 v3 v4 v5 v6 ix;obtain⟨T0,T1⟩:=qju e [6,11,25];obtain⟨p0,p1⟩:=qbv .xor (bits .and .u32 e f) (bits .and .u32 (bits .xor .u32 4294967295 e) g);generalize e3:qbz e [6,11,25]=te at T0 T1;generalize g4:bits .xor .u32 (bits .and .u32 e f) (bits .and .u32 (bits .xor .u32 4294967295 e) g)=p at p0 p1;have c7:q2h e f g C (qil.getD k 0) (wd ws k)=(C+te+p+kk+wk)%4294967296:=by
        unfold q2h chI;rw[e3,g4,g8,show qil.getD k 0=kk from f8]
       clear f8 g8;obtain⟨J,g2⟩:∃J:Int,J=(C+te+p+kk+wk)%4294967296:=⟨_,rfl⟩;rw[←g2] at c7;have e4:=qb c7;clear c7;have c4:IntKind.u32.wrap (C+te)=(C+te)%4294967296:=by rw[IntKind.wrap_u32]
       have d3:IntKind.u32.wrap ((C+te)%4294967296+p)=(C+te+p)%4294967296:=by rw[IntKind.wrap_u32];omega
       have f4:IntKind.u32.wrap ((C+te+p)%4294967296+kk)=(C+te+p+kk)%4294967296:=by rw[IntKind.wrap_u32];omega
       have f5:IntKind.u32.wrap ((C+te+p+kk)%4294967296+wk)=J:=by rw[IntKind.wrap_u32];omega
       clear g2;have d9:(k:Int).toNat=k:=by omega
       have e0:IntKind.i64.wrap (k:Int)=(k:Int):=IntWalk.i64_in _ (by omega);go_wp2_with fail;refine zc4 (by kernel_rfl) [[],[(0,106)],[],[],[(2,108),(3,109)],[(1,107),(4,110)],[],[],[(6,112),(7,113)],[],[(9,115)],[],[(10,116),(11,117)],[(8,114),(12,118)],[(5,111),(13,119)],[],[(15,121)],[(16,122)],[(14,120),(17,123)],[],[(18,124),(19,125)],[(20,126)]] 169 (by rfl) (by kernel_rfl)
        [(0,106),(1,107),(2,108),(3,109),(4,110),(5,111),(6,112),(7,113),(8,114),(9,115),(10,116),(11,117),(12,118),(13,119),(14,120),(15,121),(16,122),(17,123),(18,124),(19,125),(20,126),(21,23)] (by kernel_rfl) (fun w'=>qu wq w') qu
        (q91 [.pointer (some ⟨w3.heap.size,7,none⟩),.int .u32 (C),.int .u32 (e),undef,.int .u32 (te),.int .u32 ((C+te)%4294967296),.int .u32 (e),.int .u32 (f),.int .u32 (bits .and .u32 e f),.int .u32 (e),.int .u32 (bits .xor .u32 4294967295 e),.int .u32 (g),.int .u32 (bits .and .u32 (bits .xor .u32 4294967295 e) g),.int .u32 (p),.int .u32 ((C+te+p)%4294967296),.int .i64 (k:Int),.pointer (some ⟨4,k,none⟩),.int .u32 (kk),.int .u32 ((C+te+p+kk)%4294967296),.int .u32 (wk),.int .u32 J,.int .u32 J] #[.int .u64 6,.int .u64 11,.int .u64 25]) (((Upd.refl _ wq).drewN _).drew) (fun w=>Upd.refl _ w) (fun i v w w' _ _ n h=>q7a i v n h) ?_ ?_
       ·have q7:∀ {w':World},qu wq w'→w'.cell? ⟨w3.heap.size,7,none⟩=some (.int .u32 C):=fun n=>n.cell v7 (fun h=>h)
        have qt:∀ {w':World},qu wq w'→w'.cell? ⟨4,k,none⟩=some (.int .u32 kk):=fun n=>n.cell tk (fun h=>h)
        refine qag.plain rfl ?_ (qag.plain rfl ?_ (qag.plain rfl ?_ (qag.plain rfl ?_ (qag.plain rfl ?_ (qag.plain rfl ?_ (qag.plain rfl ?_ (qag.plain rfl ?_ (qag.plain rfl ?_ (qag.plain rfl ?_ (qag.plain rfl ?_ (qag.plain rfl ?_ (qag.plain rfl ?_ (qag.plain rfl ?_ (qag.plain rfl ?_ (qag.plain rfl ?_ (qag.plain rfl ?_ (qag.plain rfl ?_ (qag.plain rfl ?_ (qag.plain rfl ?_ (qag.plain rfl ?_ (qag.plain rfl ?_ (qag.nil))))))))))))))))))))))
        ·intro qj w' F _;unfold zm;simp only[putL];go_simp
         first | exact⟨Upd.refl _ _,rfl⟩ | exact⟨Upd.refl _ _,F,rfl⟩ | skip
        ·rintro qj w' F ⟨H,-⟩;replace H:qj 0 = .pointer (some ⟨w3.heap.size,7,none⟩):=H;have q7:=q7 F;unfold zm;simp only[putL];go_simp
         first | exact⟨Upd.refl _ _,rfl⟩ | exact⟨Upd.refl _ _,F,rfl⟩ | skip
        ·intro qj w' F _;unfold zm;simp only[putL];go_simp
         first | exact⟨Upd.refl _ _,rfl⟩ | exact⟨Upd.refl _ _,F,rfl⟩ | skip
        ·intro qj w' F _;unfold zm;simp only[putL];go_simp
         first | exact⟨(Upd.refl _ _).alloc _,F.trans ((Upd.refl _ _).alloc _),_,_,rfl,qh _ _⟩ | skip
        ·rintro qj w' F ⟨H,U,-⟩;replace H:qj 2 = .int .u32 (e):=H;obtain⟨g3,T3,U,hb⟩:=U;unfold zm;simp only[putL];go_simp;refine(qmu e 6 11 25 _ _ _ (by decide) (by decide) (by decide) j7 j8 hb).mono ?_;rintro e2 w2 ⟨rfl,q2⟩;exact⟨_,rfl,q2.upd _,F.trans (q2.upd _),by rw[e3];rfl⟩
        ·rintro qj w' F ⟨H,U,-⟩;replace H:qj 1 = .int .u32 (C):=H;replace U:qj 4 = .int .u32 (te):=U;unfold zm;simp only[putL];go_simp
         first | exact⟨Upd.refl _ _,rfl⟩ | exact⟨Upd.refl _ _,F,rfl⟩ | skip
        ·intro qj w' F _;unfold zm;simp only[putL];go_simp
         first | exact⟨Upd.refl _ _,rfl⟩ | exact⟨Upd.refl _ _,F,rfl⟩ | skip
        ·intro qj w' F _;unfold zm;simp only[putL];go_simp
         first | exact⟨Upd.refl _ _,rfl⟩ | exact⟨Upd.refl _ _,F,rfl⟩ | skip
        ·rintro qj w' F ⟨H,U,-⟩;replace H:qj 6 = .int .u32 (e):=H;replace U:qj 7 = .int .u32 (f):=U;unfold zm;simp only[putL];go_simp
         first | exact⟨Upd.refl _ _,rfl⟩ | exact⟨Upd.refl _ _,F,rfl⟩ | skip
        ·intro qj w' F _;unfold zm;simp only[putL];go_simp
         first | exact⟨Upd.refl _ _,rfl⟩ | exact⟨Upd.refl _ _,F,rfl⟩ | skip
        ·rintro qj w' F ⟨H,-⟩;replace H:qj 9 = .int .u32 (e):=H;unfold zm;simp only[putL];go_simp
         first | exact⟨Upd.refl _ _,rfl⟩ | exact⟨Upd.refl _ _,F,rfl⟩ | skip
        ·intro qj w' F _;unfold zm;simp only[putL];go_simp
         first | exact⟨Upd.refl _ _,rfl⟩ | exact⟨Upd.refl _ _,F,rfl⟩ | skip
        ·rintro qj w' F ⟨H,U,-⟩;replace H:qj 10 = .int .u32 (bits .xor .u32 4294967295 e):=H;replace U:qj 11 = .int .u32 (g):=U;unfold zm;simp only[putL];go_simp
         first | exact⟨Upd.refl _ _,rfl⟩ | exact⟨Upd.refl _ _,F,rfl⟩ | skip
        ·rintro qj w' F ⟨H,U,-⟩;replace H:qj 8 = .int .u32 (bits .and .u32 e f):=H;replace U:qj 12 = .int .u32 (bits .and .u32 (bits .xor .u32 4294967295 e) g):=U;unfold zm;simp only[putL];go_simp
         first | exact⟨Upd.refl _ _,rfl⟩ | exact⟨Upd.refl _ _,F,rfl⟩ | skip
        ·rintro qj w' F ⟨H,U,-⟩;replace H:qj 5 = .int .u32 ((C+te)%4294967296):=H;replace U:qj 13 = .int .u32 (p):=U;unfold zm;simp only[putL];go_simp
         first | exact⟨Upd.refl _ _,rfl⟩ | exact⟨Upd.refl _ _,F,rfl⟩ | skip
        ·intro qj w' F _;unfold zm;simp only[putL];go_simp
         first | exact⟨Upd.refl _ _,rfl⟩ | exact⟨Upd.refl _ _,F,rfl⟩ | skip
        ·rintro qj w' F ⟨H,-⟩;replace H:qj 15 = .int .i64 (k:Int):=H;unfold zm;simp only[putL];go_simp
         first | exact⟨Upd.refl _ _,rfl⟩ | exact⟨Upd.refl _ _,F,rfl⟩ | skip
        ·rintro qj w' F ⟨H,-⟩;replace H:qj 16 = .pointer (some ⟨4,k,none⟩):=H;have qt:=qt F;unfold zm;simp only[putL];go_simp
         first | exact⟨Upd.refl _ _,rfl⟩ | exact⟨Upd.refl _ _,F,rfl⟩ | skip
        ·rintro qj w' F ⟨H,U,-⟩;replace H:qj 14 = .int .u32 ((C+te+p)%4294967296):=H;replace U:qj 17 = .int .u32 (kk):=U;unfold zm;simp only[putL];go_simp
         first | exact⟨Upd.refl _ _,rfl⟩ | exact⟨Upd.refl _ _,F,rfl⟩ | skip
        ·intro qj w' F _;unfold zm;simp only[putL];go_simp
         first | exact⟨Upd.refl _ _,rfl⟩ | exact⟨Upd.refl _ _,F,rfl⟩ | skip
        ·rintro qj w' F ⟨H,U,-⟩;replace H:qj 18 = .int .u32 ((C+te+p+kk)%4294967296):=H;replace U:qj 19 = .int .u32 (wk):=U;unfold zm;simp only[putL];go_simp
         first | exact⟨Upd.refl _ _,rfl⟩ | exact⟨Upd.refl _ _,F,rfl⟩ | skip
        ·rintro qj w' F ⟨H,-⟩;replace H:qj 20 = .int .u32 J:=H;unfold zm;simp only[putL];go_simp
         first | exact⟨Upd.refl _ _,rfl⟩ | exact⟨Upd.refl _ _,F,rfl⟩ | skip
       ·intro qj w9 n9 i1;have a8:=i1 21 (by decide);replace a8:qj 21 = .int .u32 J:=a8;clear i1;simp only[putL,a8];go_simp;clear a8;have e6:=(qa HV).upd n9 (fun h=>h);have u9:=ur.then n9 (fun _ _ h=>h.elim);have j4:=qb e6;obtain⟨⟨a0,d7⟩,-,-,⟨d0,m7⟩,-⟩:=qa BB;clear e6 HV v7 tk n9 c4 d3 f4 f5 d9 e0 BB e3 g4;obtain⟨wz,rfl⟩:∃wz:World,wz=w9:=⟨_,rfl⟩;go_wp2_with fail;refine(qmu a 2 13 22 _ _ _ (by decide) (by decide) (by decide) a0 d7 (by exact qh _ _)).mono ?_;rintro e2 l5 ⟨rfl,i6⟩;have i5:qu wz l5:=(((Upd.refl _ wz)).alloc _).trans (i6.upd _);clear i6;have I:=(qa j4).upd i5 (fun h=>h);have l4:=u9.then i5 (fun _ _ h=>h.elim);generalize g6:qbz a [2,13,22]=ta;have k0:∀m:Int,IntKind.u32.wrap (ta+m)=(ta+m)%4294967296:=fun m=>by rw[IntKind.wrap_u32]
        go_upto_region 23 with fail;generalize f9:bits .xor .u32 (bits .xor .u32 (bits .and .u32 a b) (bits .and .u32 a c)) (bits .and .u32 b c)=ma;have d1:q8d a b c=(ta+ma)%4294967296:=by unfold q8d qxp;rw[g6,f9]
        obtain⟨two,g7⟩:∃two:Int,two=(ta+ma)%4294967296:=⟨_,rfl⟩;rw[←g7] at d1 ⊢;have e5:=qb d1;clear d1 g6 f9 g7 k0;have k1:IntKind.u32.wrap (J+two)=(J+two)%4294967296:=by rw[IntKind.wrap_u32]
        have k2:IntKind.u32.wrap (d+J)=(d+J)%4294967296:=by rw[IntKind.wrap_u32]
        have z:=fun i=>I.free i
        have v0:=I.cell (i:=0) (by simp);have v1:=I.cell (i:=1) (by simp);have v2:=I.cell (i:=2) (by simp);have v3:=I.cell (i:=3) (by simp);have v4:=I.cell (i:=4) (by simp);have v5:=I.cell (i:=5) (by simp);have v6:=I.cell (i:=6) (by simp);have v7:=I.cell (i:=7) (by simp);simp at v0 v1 v2 v3 v4 v5 v6 v7;have j5:=qb I;clear I;go_wp2_with fail;have T:=((((((((qa j5).set 0 ((J+two)%4294967296)).set 1 a).set 2 b).set 3 c).set 4 ((d+J)%4294967296)).set 5 e).set 6 f).set 7 g;have us:=(((((((l4.set1 0 (.int .u32 ((J+two)%4294967296))).set1 1 (.int .u32 a)).set1 2 (.int .u32 b)).set1 3 (.int .u32 c)).set1 4 (.int .u32 ((d+J)%4294967296))).set1 5 (.int .u32 e)).set1 6 (.int .u32 f)).set1 7 (.int .u32 g);have k6:qea ws [L,M,K,N,O,P,R,S] (k+1)=[(J+two)%4294967296,a,b,c,(d+J)%4294967296,e,f,g]:=by
         rw[qa HN];simp only[qke];rw[qa e4,qa e5]
        go_roundw
        case rel=>exact⟨k+1,by go_num,by omega,by rw[k6];exact T,us⟩
        case measure=>simp[intOf];omega
      ·obtain rfl:k=64:=by omega
       rw[show ((64:Nat):Int)=64 from rfl];have m4:=ur.size;have j0:=(Y.upd nV (fun h=>h)).upd ur (by omega);have j3:=(j2.upd nV (fun h=>h)).upd ur (by omega);have nn:=((nA.then u3 (by intro q hq h;rw[qa d2] at hq;omega)).trans nV).then ur (by intro q hq h;rw[qa d2] at hq;omega);have i2:=qk9 ws [L,M,K,N,O,P,R,S] 64 ⟨rfl,hu⟩;have HR:=qb (show qea (qav s 48) [L,M,K,N,O,P,R,S] 64=qea ws [L,M,K,N,O,P,R,S] 64 by rw[qa e8]);generalize qea ws [L,M,K,N,O,P,R,S] 64=v at hV i2 HR;clear ur Y j2 u3 nV c8 HX vV TT;obtain⟨h8,V⟩:=i2;obtain⟨w6,rfl⟩:∃w6:World,w6=wr:=⟨_,rfl⟩;go_wp2_with fail
       go_loopw [25,156] (fun _ iv wr=>∃i:Nat,iv = .int .i64 (i:Int)∧i≤8∧qbd .u32 wr A (qb8 v [L,M,K,N,O,P,R,S] i)∧Upd (fun k=>k=A) w6 wr) (fun _ iv _=>8-(intOf iv).toNat)
       case atStart=>exact⟨0,rfl,by omega,by rw[qho];exact j0,Upd.refl _ _⟩
       case round =>
        obtain⟨i,rfl,hi,hA,ur⟩:=hrel;by_cases l9:i<8
        ·have b8:=qfu v [L,M,K,N,O,P,R,S] i ⟨rfl,hu⟩;have E:=qhn v [L,M,K,N,O,P,R,S] i;unfold qnx at E;have c0:=hA.cell (i:=i) (by omega);have z0:=hA.free i;have c1:=(hV.upd ur (by omega)).cell (i:=i) (by omega);obtain⟨a0,d7⟩:=b8.2.at i;obtain⟨b0,j6⟩:=V.at i;have T:=hA.set i ((wd (qb8 v [L,M,K,N,O,P,R,S] i) i+wd v i)%4294967296);rw[←E] at T;have Z:=qb T;clear T E b8 hA;change wr.cell? _=some (.int .u32 (wd (qb8 v [L,M,K,N,O,P,R,S] i) i)) at c0;change wr.cell? _=some (.int .u32 (wd v i)) at c1;generalize wd (qb8 v [L,M,K,N,O,P,R,S] i) i=x at c0 a0 d7 Z;generalize wd v i=y at c1 b0 j6 Z;have c4:IntKind.u32.wrap (x+y)=(x+y)%4294967296:=by rw[IntKind.wrap_u32]
         have f0:(i:Int)<8:=by omega
         have d8:(i:Int).toNat=i:=by omega
         go_wp2_with fail;go_region_law (fail)
         all_goals
          have us:=ur.set1 i (.int .u32 ((x+y)%4294967296));have b9:=qa Z;generalize wr.setCell ⟨A,i,none⟩ (.int .u32 ((x+y)%4294967296))=wS at *
          go_wp2;go_roundw
          case rel=>exact⟨i+1,by go_num,by omega,(b9:qbd .u32 wS _ _),us.drew⟩
          case measure=>simp[intOf];omega
        ·obtain rfl:i=8:=by omega
         rw[show ((8:Nat):Int)=8 from rfl];have c5:qkq [L,M,K,N,O,P,R,S] s=qb8 v [L,M,K,N,O,P,R,S] 8:=by unfold qkq;rw[qa HR]
         have b8:=qfu v [L,M,K,N,O,P,R,S] 8 ⟨rfl,hu⟩;have X:=j3.upd ur (by omega);have k8:=nn.then ur (by intro q hq h;rw[qa d2] at hq;omega);generalize hr:qb8 v [L,M,K,N,O,P,R,S] 8=r at hA b8;rw[hr] at c5;clear hr HR j0 j3 ur nn hV e8;obtain⟨r8,-⟩:=b8;obtain⟨a,b,c,d,e,f,g,C,rfl⟩:=qb0 r8;have HF:=qb c5;clear r8 c5;have z:=fun i=>X.free i
         have y0:=X.cell (i:=0) (by simp);have y1:=X.cell (i:=1) (by simp);have y2:=X.cell (i:=2) (by simp);have y3:=X.cell (i:=3) (by simp);have y4:=X.cell (i:=4) (by simp);have y5:=X.cell (i:=5) (by simp);have y6:=X.cell (i:=6) (by simp);have y7:=X.cell (i:=7) (by simp);have v0:=hA.cell (i:=0) (by simp);have v1:=hA.cell (i:=1) (by simp);have v2:=hA.cell (i:=2) (by simp);have v3:=hA.cell (i:=3) (by simp);have v4:=hA.cell (i:=4) (by simp);have v5:=hA.cell (i:=5) (by simp);have v6:=hA.cell (i:=6) (by simp);have v7:=hA.cell (i:=7) (by simp);simp at v0 v1 v2 v3 v4 v5 v6 v7 y0 y1 y2 y3 y4 y5 y6 y7;have HB:=qb X;clear X hA;obtain⟨wy,rfl⟩:∃wy:World,wy=wr:=⟨_,rfl⟩;go_wp2_with fail;have hB:=((((((((qa HB).set 0 a).set 1 b).set 2 c).set 3 d).set 4 e).set 5 f).set 6 g).set 7 C;have nB:=((((((((Upd.refl (fun k=>k=A+1) wy).set1 0 (.int .u32 a)).set1 1 (.int .u32 b)).set1 2 (.int .u32 c)).set1 3 (.int .u32 d)).set1 4 (.int .u32 e)).set1 5 (.int .u32 f)).set1 6 (.int .u32 g)).set1 7 (.int .u32 C);have nE:=k8.then nB (by intro q hq h;rw[qa d2] at hq;omega);replace hB:qbd .u32 _ (A+1) [a,b,c,d,e,f,g,C]:=hB;obtain⟨TB,hB⟩:=hB;refine bodyPost_ret (qig rfl _ _ (A+1) TB _ _ _ rfl hB Tryz.underlying295 rfl (by exact Tryz.infoW8)) rfl ?_;refine⟨?_,nE⟩;rw[qa HF];rfl
end Go.Proofs.YtfmkdoachjgjbaaGreatDoor
