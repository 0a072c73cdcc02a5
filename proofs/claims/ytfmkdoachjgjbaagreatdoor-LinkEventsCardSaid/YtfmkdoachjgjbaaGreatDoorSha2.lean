/-
  Package digest: Compress.
-/
import Derived.Test.YtfmkdoachjgjbaaGreatDoorMaa
import Derived.BigRegion
import Derived.Deep.RegionLaw
import Derived.Deep.CutRange
import Derived.Deep.DrawnRows
import Derived.IntWalk
import Derived.Laws.ResultCell
set_option maxRecDepth 100000
set_option maxHeartbeats 4000000
set_option linter.unusedVariables false
set_option linter.unusedSimpArgs false
namespace Go.Proofs.YtfmkdoachjgjbaaGreatDoor
open Go.RowKit
def wd(ws:List Int)(i:Nat):Int:=ws.getD i 0
def qow(s:ByteArray)(ws:List Int)(k:Nat):List Int:=ws.set (k / 4) (bits .or .u32 (wd ws (k / 4)*256%4294967296) (bt s k))
def qbb(s:ByteArray)(n:Nat):List Int:=(List.range n).foldl (qow s) (List.replicate 64 0)
theorem qef(s:ByteArray)(n:Nat):qbb s (n+1)=qow s (qbb s n) n:=by simp[qbb,List.range_succ]
theorem qgm(s:ByteArray)(n:Nat):(qbb s n).length=64:=by
 induction n with
 | zero=>simp[qbb]
 | succ n f=>rw[qef];simp[qow,f]
def qep(ws:List Int):Prop:=∀x∈ws,0≤x∧x<4294967296
theorem qep.at{ws:List Int}(h:qep ws)(i:Nat):0≤wd ws i∧wd ws i<4294967296:=by
 unfold wd;rw[List.getD_eq_getElem?_getD];cases f:ws[i]? with
 | none=>simp
 | some x=>exact h x (List.mem_of_getElem? f)
theorem qep.set{ws:List Int}(h:qep ws)(i:Nat){x:Int}(m:0≤x∧x<4294967296):qep (ws.set i x):=by
 intro y f;rcases List.mem_or_eq_of_mem_set f with f | rfl
 ·exact h y f
 ·exact m
theorem qmr(s:ByteArray)(n:Nat):qep (qbb s n):=by
 induction n with
 | zero=>intro x f;simp[qbb] at f;omega
 | succ n i=>rw[qef];exact i.set _ (qbz ..)
def qip:List Int:=[1116352408,1899447441,3049323471,3921009573,961987163,1508970993,2453635748,2870763221,3624381080,310598401,607225278,1426881987,1925078388,2162078206,2614888103,3248222580,3835390401,4022224774,264347078,604807628,770255983,1249150122,1555081692,1996064986,2554220882,2821834349,2952996808,3210313671,3336571891,3584528711,113926993,338241895,666307205,773529912,1294757372,1396182291,1695183700,1986661051,2177026350,2456956037,2730485921,2820302411,3259730800,3345764771,3516065817,3600352804,4094571909,275423344,430227734,506948616,659060556,883997877,958139571,1322822218,1537002063,1747873779,1955562222,2024104815,2227730452,2361852424,2428436474,2756734187,3204031479,3329325298]
def qh3:List Int:=[1779033703,3144134277,1013904242,2773480762,1359893119,2600822924,528734635,1541459225]
structure Tabs(w:World):Prop where
 table:∀i,i<64→w.cell? ⟨4,i,none⟩=some (.int .u32 (qip.getD i 0))
 start:∀i,i<8→w.cell? ⟨1,i,none⟩=some (.int .u32 (qh3.getD i 0))
theorem Tabs.upd{S:Nat→Prop}{w w':World}(h:Tabs w)(u:Upd S w w')(m:¬S 4)(q:¬S 1):Tabs w':=⟨fun i f=>u.cell (h.table i f) m,fun i f=>u.cell (h.start i f) q⟩
theorem Tabs.lt{w:World}(h:Tabs w):4<w.heap.size∧1<w.heap.size:=⟨World.block_lt_of_cell? w _ (h.table 0 (by decide)),World.block_lt_of_cell? w _ (h.start 0 (by decide))⟩
theorem Tabs.new{w w':World}(h:Tabs w)(u:qq w w'):Tabs w':=h.upd u (fun h=>h) (fun h=>h)
theorem quk:qep qip:=by unfold qep qip;decide
def qvn(x:Int):Int:=bits .xor .u32 (qb2 x [7,18]) (x / 8)
def qvo(y:Int):Int:=bits .xor .u32 (qb2 y [17,19]) (y / 1024)
def qpa(ws:List Int)(j:Nat):List Int:=ws.set (j+16) ((wd ws j+qvn (wd ws (j+1))+wd ws (j+9)+qvo (wd ws (j+14)))%4294967296)
def qa0(s:ByteArray)(n:Nat):List Int:=(List.range n).foldl qpa (qbb s 64)
theorem qfs(s:ByteArray):qa0 s 0=qbb s 64:=by unfold qa0;simp only[List.range_zero,List.foldl_nil]
theorem qfr(s:ByteArray)(n:Nat):qa0 s (n+1)=qpa (qa0 s n) n:=by simp[qa0,List.range_succ]
theorem qdg(s:ByteArray)(n:Nat):(qa0 s n).length=64:=by
 induction n with
 | zero=>rw[qfs];exact qgm s 64
 | succ n f=>rw[qfr];simp[qpa,f]
theorem qgp(s:ByteArray)(n:Nat):qep (qa0 s n):=by
 induction n with
 | zero=>rw[qfs];exact qmr s 64
 | succ n f=>rw[qfr];exact f.set _ (by omega)
def chI(e f g:Int):Int:=bits .xor .u32 (bits .and .u32 e f) (bits .and .u32 (bits .xor .u32 4294967295 e) g)
def qxt(a b c:Int):Int:=bits .xor .u32 (bits .xor .u32 (bits .and .u32 a b) (bits .and .u32 a c)) (bits .and .u32 b c)
def q2d(e f g h k w:Int):Int:=(h+qb2 e [6,11,25]+chI e f g+k+w)%4294967296
def q70(a b c:Int):Int:=(qb2 a [2,13,22]+qxt a b c)%4294967296
def qkh(ws:List Int):List Int→Nat→List Int
 | [a,b,c,d,e,f,g,h],k=>[(q2d e f g h (qip.getD k 0) (wd ws k)+q70 a b c)%4294967296,a,b,c,(d+q2d e f g h (qip.getD k 0) (wd ws k))%4294967296,e,f,g]
 | v,_=>v
def qd7(ws v:List Int)(n:Nat):List Int:=(List.range n).foldl (qkh ws) v
theorem qkg(ws v:List Int):qd7 ws v 0=v:=by unfold qd7;simp only[List.range_zero,List.foldl_nil]
theorem qkf(ws v:List Int)(n:Nat):qd7 ws v (n+1)=qkh ws (qd7 ws v n) n:=by simp[qd7,List.range_succ]
theorem qb3{l:List Int}(h:l.length=8):∃a b c d e f g i,l=[a,b,c,d,e,f,g,i]:=by
 match l,h with
 | [a,b,c,d,e,f,g,i],_=>exact⟨a,b,c,d,e,f,g,i,rfl⟩
theorem q2n(ws:List Int)(v:List Int)(k:Nat)(h:v.length=8∧qep v):(qkh ws v k).length=8∧qep (qkh ws v k):=by
 obtain⟨r,m⟩:=h;obtain⟨a,b,c,d,e,f,g,i,rfl⟩:=qb3 r;refine⟨rfl,?_⟩;intro x q;simp only[qkh,List.mem_cons,List.not_mem_nil,or_false] at q;rcases q with rfl | rfl | rfl | rfl | rfl | rfl | rfl | rfl
 ·omega
 ·exact m _ (by simp)
 ·exact m _ (by simp)
 ·exact m _ (by simp)
 ·omega
 ·exact m _ (by simp)
 ·exact m _ (by simp)
 ·exact m _ (by simp)
theorem qlc(ws v:List Int)(n:Nat)(h:v.length=8∧qep v):(qd7 ws v n).length=8∧qep (qd7 ws v n):=by
 induction n with
 | zero=>rw[qkg];exact h
 | succ n f=>rw[qkf];exact q2n _ _ _ f
def qn4(v f:List Int)(i:Nat):List Int:=f.set i ((wd f i+wd v i)%4294967296)
def qcc(v f:List Int)(n:Nat):List Int:=(List.range n).foldl (qn4 v) f
theorem qhs(v f:List Int):qcc v f 0=f:=by unfold qcc;simp only[List.range_zero,List.foldl_nil]
theorem qhr(v f:List Int)(n:Nat):qcc v f (n+1)=qn4 v (qcc v f n) n:=by simp[qcc,List.range_succ]
theorem qf0(v f:List Int)(n:Nat)(h:f.length=8∧qep f):(qcc v f n).length=8∧qep (qcc v f n):=by
 induction n with
 | zero=>rw[qhs];exact h
 | succ n i=>rw[qhr];exact⟨by simp[qn4,i.1],i.2.set _ (by omega)⟩
def q9m(xs:List Value)(f:Array Value)(i:Nat)(v:Value)(w:World):Prop:=if i=3 then ∃g T,v = .slice (some ⟨g,0,none⟩) 3 3∧w.heap[g]? = some (.cells f T (0,0)) else v=xs.getD i undef
theorem q6w{xs:List Value}{m:Array Value}(i:Nat)(v:Value){w w':World}(n:qq w w')(h:q9m xs m i v w):q9m xs m i v w':=by
 unfold q9m at h ⊢;split
 ·rename_i f;rw[if_pos f] at h;obtain⟨g,T,e,q⟩:=h;exact⟨g,T,e,n.old q (fun h=>h)⟩
 ·rename_i f;rw[if_neg f] at h;exact h
theorem qbg.of{k:IntKind}{w:World}{b:Nat}{ws:List Int}{T:TypeId}{C:Array Value}(h:w.heap[b]? = some (.cells C T (0,0)))(e:C=(ws.map (Value.int k)).toArray):qbg k w b ws:=⟨T,by rw[h,e]⟩
theorem Tryz.infoW64:(Tryz.prog.info? 321).map (·.size)=some 64:=by kernel_rfl
def zas(x:Value):Sem Value:=Instr.loadAt 321 x
theorem quo(x:Value):Instr.loadAt 321 x=zas x:=rfl
theorem zbw(b o:Nat)(w:World):(zas (.pointer (some ⟨b,o,none⟩))).run Tryz.prog w=match zf w b o 64 with | some A=> .ok (.agg A) w | none=>qdn Tryz.prog 321 w b o :=
 qah 321 64 _ Tryz.underlying321 rfl Tryz.infoW64 b o w
theorem qbg.row{k:IntKind}{w:World}{b:Nat}{ws:List Int}(h:qbg k w b ws){n:Nat}(f:ws.length=n):zf w b 0 n=some (ws.map (Value.int k)).toArray:=by
 obtain⟨T,h⟩:=h;exact qas h n (by simp[f])
attribute [local go_sem ↓ high] quo
attribute [local go_sem] zbw
attribute [local go_sem ↓] Go.wp_at_zero Go.wp_at_succ
theorem qik{P:Program}{i:Func}{p u:Tmp}{f:TypeId}(h:i.results=#[.cell p f,.tmp u])(tmps:Array Value)(w:World)(g:Nat)(t:TypeId)(cs:Array Value)(fr:Nat × Nat)(d:TypeDesc)
  (r:tmps.getD p undef = .pointer (some ⟨g,0,none⟩)) (m:w.heap[g]? = some (.cells cs t fr))
  (v:P.underlying f=some d) (hd:(match d with | .struct _ | .array _ _=>true | _=>false)=true) (q:(P.info? f).map (·.size)=some cs.size) :
  (results i tmps).run P w = .ok (.tuple #[.agg cs,tmps.getD u undef]) w:=by
 rw[results_cell_tmp h,r]
 simp[asAddr,run_loadVar_row w g t f cs fr d m v hd q,Result.andThen]
theorem Tryz.infoW8:(Tryz.prog.info? 295).map (·.size)=some 8:=by kernel_rfl
def qks(h:List Int)(s:ByteArray):List Int:=qcc (qd7 (qa0 s 48) h 64) h 8
theorem qsb(h:List Int)(s:ByteArray)(f:h.length=8∧qep h):(qks h s).length=8∧qep (qks h s):=qf0 _ _ _ f
theorem qr9(h:List Int)(s:ByteArray)(w:World)(hh:h.length=8)(hu:qep h)(hs:s.size=64)(g6:Tabs w) :
  Calls Tryz.prog 212 #[.agg (h.map (Value.int .u32)).toArray,.string s] w fun e w'=>e = .returned (.tuple #[.agg ((qks h s).map (Value.int .u32)).toArray,.bool true])∧qq w w':=by
 have hw:=g6.lt
 obtain⟨L,M,K,N,O,P,R,S,rfl⟩:∃a b c d e f g i,h=[a,b,c,d,e,f,g,i]:=by
  match h,hh with
  | [a,b,c,d,e,f,g,i],_=>exact⟨a,b,c,d,e,f,g,i,rfl⟩
 simp only[List.map_cons,List.map_nil]
 go_enter Tryz.func212,Tryz.ntmps212
 go_upto_region 4 with fail
 obtain⟨wA,c3⟩:∃wA:World,wA=((w.alloc (.cells #[.int .u32 L,.int .u32 M,.int .u32 K,.int .u32 N,.int .u32 O,.int .u32 P,.int .u32 R,.int .u32 S] 295)).alloc (.cells #[.int .u32 0,.int .u32 0,.int .u32 0,.int .u32 0,.int .u32 0,.int .u32 0,.int .u32 0,.int .u32 0] 295)).alloc (.cells #[.int .u32 0,.int .u32 0,.int .u32 0,.int .u32 0,.int .u32 0,.int .u32 0,.int .u32 0,.int .u32 0,.int .u32 0,.int .u32 0,.int .u32 0,.int .u32 0,.int .u32 0,.int .u32 0,.int .u32 0,.int .u32 0,.int .u32 0,.int .u32 0,.int .u32 0,.int .u32 0,.int .u32 0,.int .u32 0,.int .u32 0,.int .u32 0,.int .u32 0,.int .u32 0,.int .u32 0,.int .u32 0,.int .u32 0,.int .u32 0,.int .u32 0,.int .u32 0,.int .u32 0,.int .u32 0,.int .u32 0,.int .u32 0,.int .u32 0,.int .u32 0,.int .u32 0,.int .u32 0,.int .u32 0,.int .u32 0,.int .u32 0,.int .u32 0,.int .u32 0,.int .u32 0,.int .u32 0,.int .u32 0,.int .u32 0,.int .u32 0,.int .u32 0,.int .u32 0,.int .u32 0,.int .u32 0,.int .u32 0,.int .u32 0,.int .u32 0,.int .u32 0,.int .u32 0,.int .u32 0,.int .u32 0,.int .u32 0,.int .u32 0,.int .u32 0] 321):=⟨_,rfl⟩
 have sA:wA.heap.size=w.heap.size+3:=by rw[c3];simp
 have nA:qq w wA:=by rw[c3];exact(((Upd.refl _ _).alloc _).alloc _).alloc _
 have vA:qbg .u32 wA w.heap.size [L,M,K,N,O,P,R,S]:=by rw[c3];exact⟨_,qs (qs (qj _ _) _) _⟩
 have vB:qbg .u32 wA (w.heap.size+1) [0,0,0,0,0,0,0,0]:=by
  rw[c3];have:=qj (w.alloc (.cells #[.int .u32 L,.int .u32 M,.int .u32 K,.int .u32 N,.int .u32 O,.int .u32 P,.int .u32 R,.int .u32 S] 295)) (.cells #[.int .u32 0,.int .u32 0,.int .u32 0,.int .u32 0,.int .u32 0,.int .u32 0,.int .u32 0,.int .u32 0] 295);rw[World.size_alloc] at this;exact⟨_,qs this _⟩
 have vW:qbg .u32 wA (w.heap.size+1+1) (List.replicate 64 0):=by
  rw[c3];have:=qj ((w.alloc (.cells #[.int .u32 L,.int .u32 M,.int .u32 K,.int .u32 N,.int .u32 O,.int .u32 P,.int .u32 R,.int .u32 S] 295)).alloc (.cells #[.int .u32 0,.int .u32 0,.int .u32 0,.int .u32 0,.int .u32 0,.int .u32 0,.int .u32 0,.int .u32 0] 295)) (.cells #[.int .u32 0,.int .u32 0,.int .u32 0,.int .u32 0,.int .u32 0,.int .u32 0,.int .u32 0,.int .u32 0,.int .u32 0,.int .u32 0,.int .u32 0,.int .u32 0,.int .u32 0,.int .u32 0,.int .u32 0,.int .u32 0,.int .u32 0,.int .u32 0,.int .u32 0,.int .u32 0,.int .u32 0,.int .u32 0,.int .u32 0,.int .u32 0,.int .u32 0,.int .u32 0,.int .u32 0,.int .u32 0,.int .u32 0,.int .u32 0,.int .u32 0,.int .u32 0,.int .u32 0,.int .u32 0,.int .u32 0,.int .u32 0,.int .u32 0,.int .u32 0,.int .u32 0,.int .u32 0,.int .u32 0,.int .u32 0,.int .u32 0,.int .u32 0,.int .u32 0,.int .u32 0,.int .u32 0,.int .u32 0,.int .u32 0,.int .u32 0,.int .u32 0,.int .u32 0,.int .u32 0,.int .u32 0,.int .u32 0,.int .u32 0,.int .u32 0,.int .u32 0,.int .u32 0,.int .u32 0,.int .u32 0,.int .u32 0,.int .u32 0,.int .u32 0] 321);rw[World.size_alloc,World.size_alloc] at this;exact⟨_,this⟩
 rw[←c3]
 clear c3
 have TA:=g6.new nA
 generalize f7:w.heap.size=A at *
 have d3:=qb f7
 clear f7
 have n8:A+3≤wA.heap.size:=by omega
 clear sA
 obtain⟨wo,rfl⟩:∃wo:World,wo=wA:=⟨_,rfl⟩
 go_wp2_with fail
 go_loopw [7,30] (fun _ iv wr=>∃k:Nat,iv = .int .i64 (k:Int)∧k≤64∧qbg .u32 wr (A+1+1) (qbb s k)∧Upd (fun k=>k=A+1+1) wo wr) (fun _ iv _=>64-(intOf iv).toNat)
 case atStart=>exact⟨0,rfl,by omega,vW,Upd.refl _ _⟩
 case round =>
  obtain⟨k,rfl,hk,hW,U⟩:=hrel;by_cases n7:k<64
  ·have c7:=qgm s k;have c0:=hW.cell (i:=k / 4) (by omega);have z0:=hW.free (k / 4);have T:=hW.set (k / 4) (bits .or .u32 (wd (qbb s k) (k / 4)*256%4294967296) (bt s k));obtain⟨k4,k5⟩:=(qmr s k).at (k / 4);rw[show (qbb s k).set (k / 4) (bits .or .u32 (wd (qbb s k) (k / 4)*256%4294967296) (bt s k))=qbb s (k+1) from(qef s k).symm] at T;change wr.cell? _=some (.int .u32 (wd (qbb s k) (k / 4))) at c0;have k6:∀W:World,(Instr.index 9 (.string s) (.int .i64 (k:Int))).run Tryz.prog W = .ok (.int .u8 (bt s k)) W:=fun W=>qej _ s _ _ k Tryz.underlying9 rfl (by omega) W
   obtain⟨h9,i0⟩:=qfj s k;have f1:(k:Int)<64:=by omega
   have d9:((k:Int) / 4).toNat=k / 4:=by omega
   have f2:(0:Int)≤(k:Int) / 4:=by omega
   have f3:(k:Int) / 4<64:=by omega
   have f4:IntKind.i64.wrap ((k:Int) / 4)=(k:Int) / 4:=IntWalk.i64_in _ (by omega);have a8:=qb T;clear T c7 hW;generalize wd (qbb s k) (k / 4)=x at c0 k4 k5 a8;generalize bt s k=y at k6 h9 i0 a8;have c5:IntKind.u32.wrap (x*256)=x*256%4294967296:=by rw[IntKind.wrap_u32]
   have d4:IntKind.u32.wrap y=y:=IntWalk.u32_in _ (by omega);go_wp2_with fail;go_region_law (fail)
   all_goals
    have us:=U.set1 (k / 4) (.int .u32 (bits .or .u32 (x*256%4294967296) y));have c2:=qa a8;generalize wr.setCell ⟨A+1+1,k / 4,none⟩ (.int .u32 (bits .or .u32 (x*256%4294967296) y))=wS at *
    go_wp2;go_roundw
    case rel=>exact⟨k+1,by go_num,by omega,(c2:qbg .u32 wS _ _),us.drew⟩
    case measure=>simp[intOf];omega
  ·obtain rfl:k=64:=by omega
   rw[show ((64:Nat):Int)=64 from rfl];have j0:=vA.upd U (by omega);have j2:=vB.upd U (by omega);have m2:=U.size;have u0:=U;clear vA vB vW U;obtain⟨w2,rfl⟩:∃w2:World,w2=wr:=⟨_,rfl⟩;go_wp2_with fail
   go_loopw [8,9,10,11,12] (fun iv _ _ _ _ wr=>∃j:Nat,iv = .int .i64 ((j:Int)+16)∧j≤48∧qbg .u32 wr (A+1+1) (qa0 s j)∧Upd (fun k=>k=A+1+1) w2 wr) (fun iv _ _ _ _ _=>64-(intOf iv).toNat)
   case atStart=>exact⟨0,rfl,by omega,by rw[qfs];exact hW,Upd.refl _ _⟩
   case round =>
    clear hW;obtain⟨j,rfl,hj,hW,U⟩:=hrel;by_cases l9:j<48
    ·have c7:=qdg s j;have hr:=qgp s j;have c1:wr.cell? ⟨A+1+1,j+1,none⟩=some (.int .u32 (wd (qa0 s j) (j+1))):=hW.cell (by omega);have f0:wr.cell? ⟨A+1+1,j+14,none⟩=some (.int .u32 (wd (qa0 s j) (j+14))):=hW.cell (by omega);obtain⟨r1,i8⟩:=hr.at (j+1);obtain⟨i9,d7⟩:=hr.at (j+14);obtain⟨r0,l0⟩:=hr.at j;obtain⟨r9,l3⟩:=hr.at (j+9);have E:=qfr s j;unfold qpa qvn qvo at E;have HN:=qb E;have HW:=qb hW;have f1:(j:Int)<48:=by omega
     have d9:IntKind.i64.wrap ((j:Int)+16-15)=(j:Int)+1:=by rw[IntWalk.i64_in _ (by omega)];omega
     have f2:IntKind.i64.wrap ((j:Int)+16-2)=(j:Int)+14:=by rw[IntWalk.i64_in _ (by omega)];omega
     have f3:((j:Int)+1).toNat=j+1:=by omega
     have f4:((j:Int)+14).toNat=j+14:=by omega
     clear hW hr c7 E;generalize hx:wd (qa0 s j) (j+1)=x at c1 r1 i8 HN;generalize hy:wd (qa0 s j) (j+14)=y at f0 i9 d7 HN;clear hx hy;go_wp2_with fail;go_quiet (fail);go_wp2_with fail;refine(qrf x 7 18 _ _ _ (by decide) (by decide) r1 i8 (by exact qj _ _)).mono ?_;rintro e w5 ⟨rfl,q5⟩;have n5:qq wr w5:=(((Upd.refl _ wr).drewN _).alloc _).trans (q5.upd _);clear q5;go_wp2_with fail;refine(qrf y 17 19 _ _ _ (by decide) (by decide) i9 d7 (by exact qj _ _)).mono ?_;rintro e w6 ⟨rfl,q6⟩;have n6:qq wr w6:=n5.trans (((Upd.refl _ w5).alloc _).trans (q6.upd _));clear n5 q6 c1 f0;have c4:=(qa HW).upd n6 (fun h=>h);have c0:w6.cell? ⟨A+1+1,j,none⟩=some (.int .u32 (wd (qa0 s j) j)):=c4.cell (by rw[qdg];omega);have c9:w6.cell? ⟨A+1+1,j+9,none⟩=some (.int .u32 (wd (qa0 s j) (j+9))):=c4.cell (by rw[qdg];omega);obtain⟨o0,m7⟩:∃v,w6.cell? ⟨A+1+1,j+16,none⟩=some v:=⟨_,c4.cell (by rw[qdg];omega)⟩;have o1:=c4.free (j+16);go_upto_region 15 with fail;obtain⟨p0,p1⟩:=qbz .xor (qb2 x [7,18]) (x / 8);obtain⟨p2,p3⟩:=qbz .xor (qb2 y [17,19]) (y / 1024);generalize bits .xor .u32 (qb2 x [7,18]) (x / 8)=p at HN p0 p1 ⊢;generalize bits .xor .u32 (qb2 y [17,19]) (y / 1024)=q at HN p2 p3 ⊢;generalize wd (qa0 s j) j=a at c0 r0 l0 HN;generalize wd (qa0 s j) (j+9)=b at c9 r9 l3 HN;have T:=c4.set (j+16) ((a+p+b+q)%4294967296);rw[←qa HN] at T;have a8:=qb T;have u6:=U.then n6 (fun _ _ h=>h.elim);clear T c4 n6 HW HN d9 f2 f3 f4;have c5:IntKind.i64.wrap (j:Int)=(j:Int):=IntWalk.i64_in _ (by omega);have d4:IntKind.i64.wrap ((j:Int)+16-7)=(j:Int)+9:=by rw[IntWalk.i64_in _ (by omega)];omega
     have m9:(j:Int)<64:=by omega
     have n0:(j:Int)+9<64:=by omega
     have n1:(j:Int)+16<64:=by omega
     have n2:(0:Int)≤(j:Int)+9:=by omega
     have n3:(0:Int)≤(j:Int)+16:=by omega
     have f5:((j:Int)+9).toNat=j+9:=by omega
     have f6:((j:Int)+16).toNat=j+16:=by omega
     have e0:IntKind.u32.wrap (a+p)=(a+p)%4294967296:=by rw[IntKind.wrap_u32]
     have e3:IntKind.u32.wrap ((a+p)%4294967296+b)=(a+p+b)%4294967296:=by rw[IntKind.wrap_u32];omega
     have k3:IntKind.u32.wrap ((a+p+b)%4294967296+q)=(a+p+b+q)%4294967296:=by rw[IntKind.wrap_u32];omega
     go_wp2_with fail;go_region_law (fail)
     all_goals
      have us:=u6.set1 (j+16) (.int .u32 ((a+p+b+q)%4294967296));have c2:=qa a8;generalize w6.setCell ⟨A+1+1,j+16,none⟩ (.int .u32 ((a+p+b+q)%4294967296))=wS at *
      clear e0 e3 k3 c5 d4;go_wp2;go_roundw
      case rel=>exact⟨j+1,by first | (rw[show ((j+1:Nat):Int)+16=(j:Int)+16+1 by omega];done) | (simp;omega),by omega,(c2:qbg .u32 wS _ _),us.drew⟩
      case measure=>simp[intOf];omega
    ·obtain rfl:j=48:=by omega
     rw[show ((48:Nat):Int)+16=64 from rfl];have Z:=j0.upd U (by omega);have j3:=j2.upd U (by omega);have u3:=u0.trans U;have m4:=U.size;obtain⟨w3,rfl⟩:∃w3:World,w3=wr:=⟨_,rfl⟩;have a0:=Z.cell (i:=0) (by simp);have a1:=Z.cell (i:=1) (by simp);have a2:=Z.cell (i:=2) (by simp);have a3:=Z.cell (i:=3) (by simp);have a4:=Z.cell (i:=4) (by simp);have a5:=Z.cell (i:=5) (by simp);have a6:=Z.cell (i:=6) (by simp);have a7:=Z.cell (i:=7) (by simp);simp at a0 a1 a2 a3 a4 a5 a6 a7;have e8:=qb hW;clear j0 j2 u0 U hW;have i1:=(qa e8).row (qdg s 48);go_upto_region 17 with fail;have vV:=qbg.of (k:= .u32) (ws:=[L,M,K,N,O,P,R,S]) (qj w3 (.cells #[.int .u32 L,.int .u32 M,.int .u32 K,.int .u32 N,.int .u32 O,.int .u32 P,.int .u32 R,.int .u32 S] 295)) rfl;have nV:qq w3 (w3.alloc (.cells #[.int .u32 L,.int .u32 M,.int .u32 K,.int .u32 N,.int .u32 O,.int .u32 P,.int .u32 R,.int .u32 S] 295)):=(Upd.refl _ _).alloc _;generalize w3.alloc (.cells #[.int .u32 L,.int .u32 M,.int .u32 K,.int .u32 N,.int .u32 O,.int .u32 P,.int .u32 R,.int .u32 S] 295)=w4 at vV nV ⊢;have d1:=qap i1 nV (fun h=>h);have k8:=qdg s 48;have i5:=qgp s 48;have m6:=vV.lt;have m3:=nV.size;have TT:=(TA.upd u3 (by omega) (by omega)).new nV;clear i1 e8 a0 a1 a2 a3 a4 a5 a6 a7;generalize i4:qa0 s 48=ws at d1 k8 i5;have e9:=qb i4;clear i4;generalize f8:(ws.map (Value.int .u32)).toArray=Cw at d1;have d5:∀(k:Nat) (W:World),k<64→(Instr.index 321 (.agg Cw) (.int .i64 (k:Int))).run Tryz.prog W = .ok (.int .u32 (wd ws k)) W:=by
      intro k W hk;have e1:Cw[k]? = some (.int .u32 (wd ws k)):=by
       rw[←f8,List.getElem?_toArray,List.getElem?_map,List.getElem?_eq_getElem (by omega),wd,List.getD_eq_getElem?_getD,List.getElem?_eq_getElem (by omega)];rfl
      have K:0≤(k:Int)∧(k:Int)<((64:Nat):Int):=by omega
      simp[Instr.index,run_underlying Tryz.underlying321,asIntOf,K,e1,go_sem];intro l8;omega
     have HX:=qb d5;clear d5 f8;obtain⟨w5,rfl⟩:∃w5:World,w5=w4:=⟨_,rfl⟩;go_wp2_with fail
     go_loopw [14,15,16,17,18,19,20,21,22,23,24,88] (fun _ _ _ _ _ _ _ _ _ _ _ iv wr=>∃k:Nat,iv = .int .i64 (k:Int)∧k≤64∧qbg .u32 wr w3.heap.size (qd7 ws [L,M,K,N,O,P,R,S] k)∧Upd (fun k=>k=w3.heap.size) w5 wr) (fun _ _ _ _ _ _ _ _ _ _ _ iv _=>64-(intOf iv).toNat)
     case atStart=>exact⟨0,rfl,by omega,by rw[qkg];exact vV,Upd.refl _ _⟩
     case round =>
      obtain⟨k,rfl,hk,hV,U⟩:=hrel;by_cases d6:k<64
      ·have b9:=qlc ws [L,M,K,N,O,P,R,S] k ⟨rfl,hu⟩;have E:=qkf ws [L,M,K,N,O,P,R,S] k;generalize hv:qd7 ws [L,M,K,N,O,P,R,S] k=v at hV b9 E;clear hv;obtain⟨h8,X⟩:=b9;obtain⟨a,b,c,d,e,f,g,C,rfl⟩:=qb3 h8;clear h8;have HN:=qb E;have v0:=hV.cell (i:=0) (by simp);have v1:=hV.cell (i:=1) (by simp);have v2:=hV.cell (i:=2) (by simp);have v3:=hV.cell (i:=3) (by simp);have v4:=hV.cell (i:=4) (by simp);have v5:=hV.cell (i:=5) (by simp);have v6:=hV.cell (i:=6) (by simp);have v7:=hV.cell (i:=7) (by simp);simp at v0 v1 v2 v3 v4 v5 v6 v7;have HV:=qb hV;clear E hV;have ix:=qa HX k wr d6;have tk:=(TT.upd U (by omega) (by omega)).table k d6;obtain⟨t0,l4⟩:=quk.at k;obtain⟨x0,l7⟩:=i5.at k;change wr.cell? _=some (.int .u32 (wd qip k)) at tk;generalize f9:wd qip k=kk at tk t0 l4;generalize g9:wd ws k=wk at ix x0 l7;have b0:=X a (by simp);have b1:=X b (by simp);have b2:=X c (by simp);have b3:=X d (by simp);have b4:=X e (by simp);have b5:=X f (by simp);have b6:=X g (by simp);have b7:=X C (by simp);obtain⟨j8,j9⟩:=b4;have BB:=qb (And.intro b0 (And.intro b1 (And.intro b2 (And.intro b3 (And.intro b5 (And.intro b6 b7))))));clear b0 b1 b2 b3 b5 b6 b7;have n4:(k:Int)<64:=by omega
       clear X;obtain⟨wq,rfl⟩:∃wq:World,wq=wr:=⟨_,rfl⟩;go_wp2_with fail;go_quiet (fail);clear v0 v1 v2 v3 v4 v5 v6 ix;obtain⟨T0,T1⟩:=qjx e [6,11,25];obtain⟨p0,p1⟩:=qbz .xor (bits .and .u32 e f) (bits .and .u32 (bits .xor .u32 4294967295 e) g);generalize e4:qb2 e [6,11,25]=te at T0 T1;generalize g5:bits .xor .u32 (bits .and .u32 e f) (bits .and .u32 (bits .xor .u32 4294967295 e) g)=p at p0 p1;have c8:q2d e f g C (qip.getD k 0) (wd ws k)=(C+te+p+kk+wk)%4294967296:=by
        unfold q2d chI;rw[e4,g5,g9,show qip.getD k 0=kk from f9]
       clear f9 g9;obtain⟨J,g4⟩:∃J:Int,J=(C+te+p+kk+wk)%4294967296:=⟨_,rfl⟩;rw[←g4] at c8;have e5:=qb c8;clear c8;have c5:IntKind.u32.wrap (C+te)=(C+te)%4294967296:=by rw[IntKind.wrap_u32]
       have d4:IntKind.u32.wrap ((C+te)%4294967296+p)=(C+te+p)%4294967296:=by rw[IntKind.wrap_u32];omega
       have f5:IntKind.u32.wrap ((C+te+p)%4294967296+kk)=(C+te+p+kk)%4294967296:=by rw[IntKind.wrap_u32];omega
       have f6:IntKind.u32.wrap ((C+te+p+kk)%4294967296+wk)=J:=by rw[IntKind.wrap_u32];omega
       clear g4;have e0:(k:Int).toNat=k:=by omega
       have e3:IntKind.i64.wrap (k:Int)=(k:Int):=IntWalk.i64_in _ (by omega);go_wp2_with fail;refine zcm (by kernel_rfl) [[],[(0,106)],[],[],[(2,108),(3,109)],[(1,107),(4,110)],[],[],[(6,112),(7,113)],[],[(9,115)],[],[(10,116),(11,117)],[(8,114),(12,118)],[(5,111),(13,119)],[],[(15,121)],[(16,122)],[(14,120),(17,123)],[],[(18,124),(19,125)],[(20,126)]] 169 (by rfl) (by kernel_rfl)
        [(0,106),(1,107),(2,108),(3,109),(4,110),(5,111),(6,112),(7,113),(8,114),(9,115),(10,116),(11,117),(12,118),(13,119),(14,120),(15,121),(16,122),(17,123),(18,124),(19,125),(20,126),(21,23)] (by kernel_rfl) (fun w'=>qq wq w') qq
        (q9m [.pointer (some ⟨w3.heap.size,7,none⟩),.int .u32 (C),.int .u32 (e),undef,.int .u32 (te),.int .u32 ((C+te)%4294967296),.int .u32 (e),.int .u32 (f),.int .u32 (bits .and .u32 e f),.int .u32 (e),.int .u32 (bits .xor .u32 4294967295 e),.int .u32 (g),.int .u32 (bits .and .u32 (bits .xor .u32 4294967295 e) g),.int .u32 (p),.int .u32 ((C+te+p)%4294967296),.int .i64 (k:Int),.pointer (some ⟨4,k,none⟩),.int .u32 (kk),.int .u32 ((C+te+p+kk)%4294967296),.int .u32 (wk),.int .u32 J,.int .u32 J] #[.int .u64 6,.int .u64 11,.int .u64 25]) (((Upd.refl _ wq).drewN _).drew) (fun w=>Upd.refl _ w) (fun i v w w' _ _ n h=>q6w i v n h) ?_ ?_
       ·have q7:∀ {w':World},qq wq w'→w'.cell? ⟨w3.heap.size,7,none⟩=some (.int .u32 C):=fun n=>n.cell v7 (fun h=>h)
        have qt:∀ {w':World},qq wq w'→w'.cell? ⟨4,k,none⟩=some (.int .u32 kk):=fun n=>n.cell tk (fun h=>h)
        refine qan.plain rfl ?_ (qan.plain rfl ?_ (qan.plain rfl ?_ (qan.plain rfl ?_ (qan.plain rfl ?_ (qan.plain rfl ?_ (qan.plain rfl ?_ (qan.plain rfl ?_ (qan.plain rfl ?_ (qan.plain rfl ?_ (qan.plain rfl ?_ (qan.plain rfl ?_ (qan.plain rfl ?_ (qan.plain rfl ?_ (qan.plain rfl ?_ (qan.plain rfl ?_ (qan.plain rfl ?_ (qan.plain rfl ?_ (qan.plain rfl ?_ (qan.plain rfl ?_ (qan.plain rfl ?_ (qan.plain rfl ?_ (qan.nil))))))))))))))))))))))
        ·intro ql w' F _;unfold zm;simp only[qaa];go_simp
         first | exact⟨Upd.refl _ _,rfl⟩ | exact⟨Upd.refl _ _,F,rfl⟩ | skip
        ·rintro ql w' F ⟨H,-⟩;replace H:ql 0 = .pointer (some ⟨w3.heap.size,7,none⟩):=H;have q7:=q7 F;unfold zm;simp only[qaa];go_simp
         first | exact⟨Upd.refl _ _,rfl⟩ | exact⟨Upd.refl _ _,F,rfl⟩ | skip
        ·intro ql w' F _;unfold zm;simp only[qaa];go_simp
         first | exact⟨Upd.refl _ _,rfl⟩ | exact⟨Upd.refl _ _,F,rfl⟩ | skip
        ·intro ql w' F _;unfold zm;simp only[qaa];go_simp
         first | exact⟨(Upd.refl _ _).alloc _,F.trans ((Upd.refl _ _).alloc _),_,_,rfl,qj _ _⟩ | skip
        ·rintro ql w' F ⟨H,V,-⟩;replace H:ql 2 = .int .u32 (e):=H;obtain⟨g3,T3,V,hb⟩:=V;unfold zm;simp only[qaa];go_simp;refine(qm3 e 6 11 25 _ _ _ (by decide) (by decide) (by decide) j8 j9 hb).mono ?_;rintro e2 w2 ⟨rfl,q2⟩;exact⟨_,rfl,q2.upd _,F.trans (q2.upd _),by rw[e4];rfl⟩
        ·rintro ql w' F ⟨H,V,-⟩;replace H:ql 1 = .int .u32 (C):=H;replace V:ql 4 = .int .u32 (te):=V;unfold zm;simp only[qaa];go_simp
         first | exact⟨Upd.refl _ _,rfl⟩ | exact⟨Upd.refl _ _,F,rfl⟩ | skip
        ·intro ql w' F _;unfold zm;simp only[qaa];go_simp
         first | exact⟨Upd.refl _ _,rfl⟩ | exact⟨Upd.refl _ _,F,rfl⟩ | skip
        ·intro ql w' F _;unfold zm;simp only[qaa];go_simp
         first | exact⟨Upd.refl _ _,rfl⟩ | exact⟨Upd.refl _ _,F,rfl⟩ | skip
        ·rintro ql w' F ⟨H,V,-⟩;replace H:ql 6 = .int .u32 (e):=H;replace V:ql 7 = .int .u32 (f):=V;unfold zm;simp only[qaa];go_simp
         first | exact⟨Upd.refl _ _,rfl⟩ | exact⟨Upd.refl _ _,F,rfl⟩ | skip
        ·intro ql w' F _;unfold zm;simp only[qaa];go_simp
         first | exact⟨Upd.refl _ _,rfl⟩ | exact⟨Upd.refl _ _,F,rfl⟩ | skip
        ·rintro ql w' F ⟨H,-⟩;replace H:ql 9 = .int .u32 (e):=H;unfold zm;simp only[qaa];go_simp
         first | exact⟨Upd.refl _ _,rfl⟩ | exact⟨Upd.refl _ _,F,rfl⟩ | skip
        ·intro ql w' F _;unfold zm;simp only[qaa];go_simp
         first | exact⟨Upd.refl _ _,rfl⟩ | exact⟨Upd.refl _ _,F,rfl⟩ | skip
        ·rintro ql w' F ⟨H,V,-⟩;replace H:ql 10 = .int .u32 (bits .xor .u32 4294967295 e):=H;replace V:ql 11 = .int .u32 (g):=V;unfold zm;simp only[qaa];go_simp
         first | exact⟨Upd.refl _ _,rfl⟩ | exact⟨Upd.refl _ _,F,rfl⟩ | skip
        ·rintro ql w' F ⟨H,V,-⟩;replace H:ql 8 = .int .u32 (bits .and .u32 e f):=H;replace V:ql 12 = .int .u32 (bits .and .u32 (bits .xor .u32 4294967295 e) g):=V;unfold zm;simp only[qaa];go_simp
         first | exact⟨Upd.refl _ _,rfl⟩ | exact⟨Upd.refl _ _,F,rfl⟩ | skip
        ·rintro ql w' F ⟨H,V,-⟩;replace H:ql 5 = .int .u32 ((C+te)%4294967296):=H;replace V:ql 13 = .int .u32 (p):=V;unfold zm;simp only[qaa];go_simp
         first | exact⟨Upd.refl _ _,rfl⟩ | exact⟨Upd.refl _ _,F,rfl⟩ | skip
        ·intro ql w' F _;unfold zm;simp only[qaa];go_simp
         first | exact⟨Upd.refl _ _,rfl⟩ | exact⟨Upd.refl _ _,F,rfl⟩ | skip
        ·rintro ql w' F ⟨H,-⟩;replace H:ql 15 = .int .i64 (k:Int):=H;unfold zm;simp only[qaa];go_simp
         first | exact⟨Upd.refl _ _,rfl⟩ | exact⟨Upd.refl _ _,F,rfl⟩ | skip
        ·rintro ql w' F ⟨H,-⟩;replace H:ql 16 = .pointer (some ⟨4,k,none⟩):=H;have qt:=qt F;unfold zm;simp only[qaa];go_simp
         first | exact⟨Upd.refl _ _,rfl⟩ | exact⟨Upd.refl _ _,F,rfl⟩ | skip
        ·rintro ql w' F ⟨H,V,-⟩;replace H:ql 14 = .int .u32 ((C+te+p)%4294967296):=H;replace V:ql 17 = .int .u32 (kk):=V;unfold zm;simp only[qaa];go_simp
         first | exact⟨Upd.refl _ _,rfl⟩ | exact⟨Upd.refl _ _,F,rfl⟩ | skip
        ·intro ql w' F _;unfold zm;simp only[qaa];go_simp
         first | exact⟨Upd.refl _ _,rfl⟩ | exact⟨Upd.refl _ _,F,rfl⟩ | skip
        ·rintro ql w' F ⟨H,V,-⟩;replace H:ql 18 = .int .u32 ((C+te+p+kk)%4294967296):=H;replace V:ql 19 = .int .u32 (wk):=V;unfold zm;simp only[qaa];go_simp
         first | exact⟨Upd.refl _ _,rfl⟩ | exact⟨Upd.refl _ _,F,rfl⟩ | skip
        ·rintro ql w' F ⟨H,-⟩;replace H:ql 20 = .int .u32 J:=H;unfold zm;simp only[qaa];go_simp
         first | exact⟨Upd.refl _ _,rfl⟩ | exact⟨Upd.refl _ _,F,rfl⟩ | skip
       ·intro ql w9 n9 i2;have b8:=i2 21 (by decide);replace b8:ql 21 = .int .u32 J:=b8;clear i2;simp only[qaa,b8];go_simp;clear b8;have e7:=(qa HV).upd n9 (fun h=>h);have u9:=U.then n9 (fun _ _ h=>h.elim);have j5:=qb e7;obtain⟨⟨a0,d8⟩,-,-,⟨d0,m8⟩,-⟩:=qa BB;clear e7 HV v7 tk n9 c5 d4 f5 f6 e0 e3 BB e4 g5;obtain⟨wz,rfl⟩:∃wz:World,wz=w9:=⟨_,rfl⟩;go_wp2_with fail;refine(qm3 a 2 13 22 _ _ _ (by decide) (by decide) (by decide) a0 d8 (by exact qj _ _)).mono ?_;rintro e2 l6 ⟨rfl,i7⟩;have i6:qq wz l6:=(((Upd.refl _ wz)).alloc _).trans (i7.upd _);clear i7;have I:=(qa j5).upd i6 (fun h=>h);have l5:=u9.then i6 (fun _ _ h=>h.elim);generalize g7:qb2 a [2,13,22]=ta;have k0:∀m:Int,IntKind.u32.wrap (ta+m)=(ta+m)%4294967296:=fun m=>by rw[IntKind.wrap_u32]
        go_upto_region 23 with fail;generalize g2:bits .xor .u32 (bits .xor .u32 (bits .and .u32 a b) (bits .and .u32 a c)) (bits .and .u32 b c)=ma;have d2:q70 a b c=(ta+ma)%4294967296:=by unfold q70 qxt;rw[g7,g2]
        obtain⟨two,g8⟩:∃two:Int,two=(ta+ma)%4294967296:=⟨_,rfl⟩;rw[←g8] at d2 ⊢;have e6:=qb d2;clear d2 g7 g2 g8 k0;have k1:IntKind.u32.wrap (J+two)=(J+two)%4294967296:=by rw[IntKind.wrap_u32]
        have k2:IntKind.u32.wrap (d+J)=(d+J)%4294967296:=by rw[IntKind.wrap_u32]
        have z:=fun i=>I.free i
        have v0:=I.cell (i:=0) (by simp);have v1:=I.cell (i:=1) (by simp);have v2:=I.cell (i:=2) (by simp);have v3:=I.cell (i:=3) (by simp);have v4:=I.cell (i:=4) (by simp);have v5:=I.cell (i:=5) (by simp);have v6:=I.cell (i:=6) (by simp);have v7:=I.cell (i:=7) (by simp);simp at v0 v1 v2 v3 v4 v5 v6 v7;have j6:=qb I;clear I;go_wp2_with fail;have T:=((((((((qa j6).set 0 ((J+two)%4294967296)).set 1 a).set 2 b).set 3 c).set 4 ((d+J)%4294967296)).set 5 e).set 6 f).set 7 g;have us:=(((((((l5.set1 0 (.int .u32 ((J+two)%4294967296))).set1 1 (.int .u32 a)).set1 2 (.int .u32 b)).set1 3 (.int .u32 c)).set1 4 (.int .u32 ((d+J)%4294967296))).set1 5 (.int .u32 e)).set1 6 (.int .u32 f)).set1 7 (.int .u32 g);have k7:qd7 ws [L,M,K,N,O,P,R,S] (k+1)=[(J+two)%4294967296,a,b,c,(d+J)%4294967296,e,f,g]:=by
         rw[qa HN];simp only[qkh];rw[qa e5,qa e6]
        go_roundw
        case rel=>exact⟨k+1,by go_num,by omega,by rw[k7];exact T,us⟩
        case measure=>simp[intOf];omega
      ·obtain rfl:k=64:=by omega
       rw[show ((64:Nat):Int)=64 from rfl];have m5:=U.size;have j1:=(Z.upd nV (fun h=>h)).upd U (by omega);have j4:=(j3.upd nV (fun h=>h)).upd U (by omega);have nn:=((nA.then u3 (by intro q hq h;rw[qa d3] at hq;omega)).trans nV).then U (by intro q hq h;rw[qa d3] at hq;omega);have i3:=qlc ws [L,M,K,N,O,P,R,S] 64 ⟨rfl,hu⟩;have HR:=qb (show qd7 (qa0 s 48) [L,M,K,N,O,P,R,S] 64=qd7 ws [L,M,K,N,O,P,R,S] 64 by rw[qa e9]);generalize qd7 ws [L,M,K,N,O,P,R,S] 64=v at hV i3 HR;clear U Z j3 u3 nV d1 HX vV TT;obtain⟨h8,X⟩:=i3;obtain⟨w6,rfl⟩:∃w6:World,w6=wr:=⟨_,rfl⟩;go_wp2_with fail
       go_loopw [25,156] (fun _ iv wr=>∃i:Nat,iv = .int .i64 (i:Int)∧i≤8∧qbg .u32 wr A (qcc v [L,M,K,N,O,P,R,S] i)∧Upd (fun k=>k=A) w6 wr) (fun _ iv _=>8-(intOf iv).toNat)
       case atStart=>exact⟨0,rfl,by omega,by rw[qhs];exact j1,Upd.refl _ _⟩
       case round =>
        obtain⟨i,rfl,hi,hA,U⟩:=hrel;by_cases m0:i<8
        ·have b9:=qf0 v [L,M,K,N,O,P,R,S] i ⟨rfl,hu⟩;have E:=qhr v [L,M,K,N,O,P,R,S] i;unfold qn4 at E;have c0:=hA.cell (i:=i) (by omega);have z0:=hA.free i;have c1:=(hV.upd U (by omega)).cell (i:=i) (by omega);obtain⟨a0,d8⟩:=b9.2.at i;obtain⟨b0,j7⟩:=X.at i;have T:=hA.set i ((wd (qcc v [L,M,K,N,O,P,R,S] i) i+wd v i)%4294967296);rw[←E] at T;have a8:=qb T;clear T E b9 hA;change wr.cell? _=some (.int .u32 (wd (qcc v [L,M,K,N,O,P,R,S] i) i)) at c0;change wr.cell? _=some (.int .u32 (wd v i)) at c1;generalize wd (qcc v [L,M,K,N,O,P,R,S] i) i=x at c0 a0 d8 a8;generalize wd v i=y at c1 b0 j7 a8;have c5:IntKind.u32.wrap (x+y)=(x+y)%4294967296:=by rw[IntKind.wrap_u32]
         have f1:(i:Int)<8:=by omega
         have d9:(i:Int).toNat=i:=by omega
         go_wp2_with fail;go_region_law (fail)
         all_goals
          have us:=U.set1 i (.int .u32 ((x+y)%4294967296));have c2:=qa a8;generalize wr.setCell ⟨A,i,none⟩ (.int .u32 ((x+y)%4294967296))=wS at *
          go_wp2;go_roundw
          case rel=>exact⟨i+1,by go_num,by omega,(c2:qbg .u32 wS _ _),us.drew⟩
          case measure=>simp[intOf];omega
        ·obtain rfl:i=8:=by omega
         rw[show ((8:Nat):Int)=8 from rfl];have c6:qks [L,M,K,N,O,P,R,S] s=qcc v [L,M,K,N,O,P,R,S] 8:=by unfold qks;rw[qa HR]
         have b9:=qf0 v [L,M,K,N,O,P,R,S] 8 ⟨rfl,hu⟩;have Y:=j4.upd U (by omega);have k9:=nn.then U (by intro q hq h;rw[qa d3] at hq;omega);generalize hr:qcc v [L,M,K,N,O,P,R,S] 8=r at hA b9;rw[hr] at c6;clear hr HR j1 j4 U nn hV e9;obtain⟨r8,-⟩:=b9;obtain⟨a,b,c,d,e,f,g,C,rfl⟩:=qb3 r8;have HF:=qb c6;clear r8 c6;have z:=fun i=>Y.free i
         have y0:=Y.cell (i:=0) (by simp);have y1:=Y.cell (i:=1) (by simp);have y2:=Y.cell (i:=2) (by simp);have y3:=Y.cell (i:=3) (by simp);have y4:=Y.cell (i:=4) (by simp);have y5:=Y.cell (i:=5) (by simp);have y6:=Y.cell (i:=6) (by simp);have y7:=Y.cell (i:=7) (by simp);have v0:=hA.cell (i:=0) (by simp);have v1:=hA.cell (i:=1) (by simp);have v2:=hA.cell (i:=2) (by simp);have v3:=hA.cell (i:=3) (by simp);have v4:=hA.cell (i:=4) (by simp);have v5:=hA.cell (i:=5) (by simp);have v6:=hA.cell (i:=6) (by simp);have v7:=hA.cell (i:=7) (by simp);simp at v0 v1 v2 v3 v4 v5 v6 v7 y0 y1 y2 y3 y4 y5 y6 y7;have HB:=qb Y;clear Y hA;obtain⟨wy,rfl⟩:∃wy:World,wy=wr:=⟨_,rfl⟩;go_wp2_with fail;have hB:=((((((((qa HB).set 0 a).set 1 b).set 2 c).set 3 d).set 4 e).set 5 f).set 6 g).set 7 C;have nB:=((((((((Upd.refl (fun k=>k=A+1) wy).set1 0 (.int .u32 a)).set1 1 (.int .u32 b)).set1 2 (.int .u32 c)).set1 3 (.int .u32 d)).set1 4 (.int .u32 e)).set1 5 (.int .u32 f)).set1 6 (.int .u32 g)).set1 7 (.int .u32 C);have nE:=k9.then nB (by intro q hq h;rw[qa d3] at hq;omega);replace hB:qbg .u32 _ (A+1) [a,b,c,d,e,f,g,C]:=hB;obtain⟨TB,hB⟩:=hB;refine bodyPost_ret (qik rfl _ _ (A+1) TB _ _ _ rfl hB Tryz.underlying295 rfl (by exact Tryz.infoW8)) rfl ?_;refine⟨?_,nE⟩;rw[qa HF];rfl
end Go.Proofs.YtfmkdoachjgjbaaGreatDoor
