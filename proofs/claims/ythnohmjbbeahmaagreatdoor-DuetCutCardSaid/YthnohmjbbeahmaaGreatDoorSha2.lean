/-
  Package digest: Compress.
-/
import Derived.Test.YthnohmjbbeahmaaGreatDoorMba
import Derived.BigRegion
import Derived.Deep.RegionLaw
import Derived.Deep.CutRange
import Derived.Deep.DrawnRows
import Derived.IntWalk
import Derived.Laws.ResultCell
import Derived.Test.YthnohmjbbeahmaaGreatDoorMaa
set_option linter.unusedVariables false
set_option linter.unusedSimpArgs false
namespace Go.Proofs.YthnohmjbbeahmaaGreatDoor
open Go.RowKit
def wd(ws:List Int)(i:Nat):Int:=ws.getD i 0
def qsv(s:ByteArray)(ws:List Int)(k:Nat):List Int:=ws.set (k / 4) (bits .or .u32 (wd ws (k / 4)*256%4294967296) (bt s k))
def qba(s:ByteArray)(n:Nat):List Int:=(List.range n).foldl (qsv s) (List.replicate 64 0)
theorem qfz(s:ByteArray)(n:Nat):qba s (n+1)=qsv s (qba s n) n:=by simp[qba,List.range_succ]
theorem qik(s:ByteArray)(n:Nat):(qba s n).length=64:=by
 induction n with
 | zero=>simp[qba]
 | succ n g=>rw[qfz];simp[qsv,g]
def qf5(ws:List Int):Prop:=∀x∈ws,0≤x∧x<4294967296
theorem qf5.at{ws:List Int}(h:qf5 ws)(i:Nat):0≤wd ws i∧wd ws i<4294967296:=by
 unfold wd;rw[List.getD_eq_getElem?_getD];cases g:ws[i]? with
 | none=>simp
 | some x=>exact h x (List.mem_of_getElem? g)
theorem qf5.set{ws:List Int}(h:qf5 ws)(i:Nat){x:Int}(l:0≤x∧x<4294967296):qf5 (ws.set i x):=by
 intro y g;rcases List.mem_or_eq_of_mem_set g with g | rfl
 ·exact h y g
 ·exact l
theorem qqa(s:ByteArray)(n:Nat):qf5 (qba s n):=by
 induction n with
 | zero=>intro x g;simp[qba] at g;omega
 | succ n i=>rw[qfz];exact i.set _ (qb7 ..)
def qk5:List Int:=[1116352408,1899447441,3049323471,3921009573,961987163,1508970993,2453635748,2870763221,3624381080,310598401,607225278,1426881987,1925078388,2162078206,2614888103,3248222580,3835390401,4022224774,264347078,604807628,770255983,1249150122,1555081692,1996064986,2554220882,2821834349,2952996808,3210313671,3336571891,3584528711,113926993,338241895,666307205,773529912,1294757372,1396182291,1695183700,1986661051,2177026350,2456956037,2730485921,2820302411,3259730800,3345764771,3516065817,3600352804,4094571909,275423344,430227734,506948616,659060556,883997877,958139571,1322822218,1537002063,1747873779,1955562222,2024104815,2227730452,2361852424,2428436474,2756734187,3204031479,3329325298]
def qkc:List Int:=[1779033703,3144134277,1013904242,2773480762,1359893119,2600822924,528734635,1541459225]
structure Tabs(w:World):Prop where
 table:∀i,i<64→w.cell? ⟨3,i,none⟩=some (.int .u32 (qk5.getD i 0))
 start:∀i,i<8→w.cell? ⟨1,i,none⟩=some (.int .u32 (qkc.getD i 0))
theorem Tabs.upd{S:Nat→Prop}{w w':World}(h:Tabs w)(u:Upd S w w')(l:¬S 3)(m:¬S 1):Tabs w':=⟨fun i g=>u.cell (h.table i g) l,fun i g=>u.cell (h.start i g) m⟩
theorem Tabs.lt{w:World}(h:Tabs w):3<w.heap.size∧1<w.heap.size:=⟨World.block_lt_of_cell? w _ (h.table 0 (by decide)),World.block_lt_of_cell? w _ (h.start 0 (by decide))⟩
theorem Tabs.new{w w':World}(h:Tabs w)(u:qq w w'):Tabs w':=h.upd u (fun h=>h) (fun h=>h)
theorem q0l:qf5 qk5:=by unfold qf5 qk5;decide
def q1r(x:Int):Int:=bits .xor .u32 (qcc x [7,18]) (x / 8)
def sig1(y:Int):Int:=bits .xor .u32 (qcc y [17,19]) (y / 1024)
def qtm(ws:List Int)(j:Nat):List Int:=ws.set (j+16) ((wd ws j+q1r (wd ws (j+1))+wd ws (j+9)+sig1 (wd ws (j+14)))%4294967296)
def qaz(s:ByteArray)(n:Nat):List Int:=(List.range n).foldl qtm (qba s 64)
theorem qhf(s:ByteArray):qaz s 0=qba s 64:=by unfold qaz;simp only[List.range_zero,List.foldl_nil]
theorem qhe(s:ByteArray)(n:Nat):qaz s (n+1)=qtm (qaz s n) n:=by simp[qaz,List.range_succ]
theorem qd5(s:ByteArray)(n:Nat):(qaz s n).length=64:=by
 induction n with
 | zero=>rw[qhf];exact qik s 64
 | succ n g=>rw[qhe];simp[qtm,g]
theorem qir(s:ByteArray)(n:Nat):qf5 (qaz s n):=by
 induction n with
 | zero=>rw[qhf];exact qqa s 64
 | succ n g=>rw[qhe];exact g.set _ (by omega)
def chI(e f g:Int):Int:=bits .xor .u32 (bits .and .u32 e f) (bits .and .u32 (bits .xor .u32 4294967295 e) g)
def q3w(a b c:Int):Int:=bits .xor .u32 (bits .xor .u32 (bits .and .u32 a b) (bits .and .u32 a c)) (bits .and .u32 b c)
def q80(e f g h k w:Int):Int:=(h+qcc e [6,11,25]+chI e f g+k+w)%4294967296
def zej(a b c:Int):Int:=(qcc a [2,13,22]+q3w a b c)%4294967296
def qns(ws:List Int):List Int→Nat→List Int
 | [a,b,c,d,e,f,g,h],k=>[(q80 e f g h (qk5.getD k 0) (wd ws k)+zej a b c)%4294967296,a,b,c,(d+q80 e f g h (qk5.getD k 0) (wd ws k))%4294967296,e,f,g]
 | v,_=>v
def qfp(ws v:List Int)(n:Nat):List Int:=(List.range n).foldl (qns ws) v
theorem qnr(ws v:List Int):qfp ws v 0=v:=by unfold qfp;simp only[List.range_zero,List.foldl_nil]
theorem qnq(ws v:List Int)(n:Nat):qfp ws v (n+1)=qns ws (qfp ws v n) n:=by simp[qfp,List.range_succ]
theorem qce{l:List Int}(h:l.length=8):∃a b c d e f g i,l=[a,b,c,d,e,f,g,i]:=by
 match l,h with
 | [a,b,c,d,e,f,g,i],_=>exact⟨a,b,c,d,e,f,g,i,rfl⟩
theorem q87(ws:List Int)(v:List Int)(k:Nat)(h:v.length=8∧qf5 v):(qns ws v k).length=8∧qf5 (qns ws v k):=by
 obtain⟨o,l⟩:=h;obtain⟨a,b,c,d,e,f,g,i,rfl⟩:=qce o;refine⟨rfl,?_⟩;intro x m;simp only[qns,List.mem_cons,List.not_mem_nil,or_false] at m;rcases m with rfl | rfl | rfl | rfl | rfl | rfl | rfl | rfl
 ·omega
 ·exact l _ (by simp)
 ·exact l _ (by simp)
 ·exact l _ (by simp)
 ·omega
 ·exact l _ (by simp)
 ·exact l _ (by simp)
 ·exact l _ (by simp)
theorem qos(ws v:List Int)(n:Nat)(h:v.length=8∧qf5 v):(qfp ws v n).length=8∧qf5 (qfp ws v n):=by
 induction n with
 | zero=>rw[qnr];exact h
 | succ n g=>rw[qnq];exact q87 _ _ _ g
def qrm(v g:List Int)(i:Nat):List Int:=g.set i ((wd g i+wd v i)%4294967296)
def qco(v g:List Int)(n:Nat):List Int:=(List.range n).foldl (qrm v) g
theorem qjz(v g:List Int):qco v g 0=g:=by unfold qco;simp only[List.range_zero,List.foldl_nil]
theorem qjy(v g:List Int)(n:Nat):qco v g (n+1)=qrm v (qco v g n) n:=by simp[qco,List.range_succ]
theorem qhs(v g:List Int)(n:Nat)(h:g.length=8∧qf5 g):(qco v g n).length=8∧qf5 (qco v g n):=by
 induction n with
 | zero=>rw[qjz];exact h
 | succ n i=>rw[qjy];exact⟨by simp[qrm,i.1],i.2.set _ (by omega)⟩
def zf9(xs:List Value)(l:Array Value)(i:Nat)(v:Value)(w:World):Prop:=if i=3 then ∃g T,v = .slice (some ⟨g,0,none⟩) 3 3∧w.heap[g]? = some (.cells l T (0,0)) else v=xs.getD i undef
theorem zc5{xs:List Value}{m:Array Value}(i:Nat)(v:Value){w w':World}(n:qq w w')(h:zf9 xs m i v w):zf9 xs m i v w':=by
 unfold zf9 at h ⊢;split
 ·rename_i l;rw[if_pos l] at h;obtain⟨g,T,e,o⟩:=h;exact⟨g,T,e,n.old o (fun h=>h)⟩
 ·rename_i l;rw[if_neg l] at h;exact h
theorem qbg.of{k:IntKind}{w:World}{b:Nat}{ws:List Int}{T:TypeId}{C:Array Value}(h:w.heap[b]? = some (.cells C T (0,0)))(e:C=(ws.map (Value.int k)).toArray):qbg k w b ws:=⟨T,by rw[h,e]⟩
theorem Tryz.infoW64:(Tryz.prog.info? 220).map (·.size)=some 64:=by kernel_rfl
def zhe(x:Value):Sem Value:=Instr.loadAt 220 x
theorem q0p(x:Value):Instr.loadAt 220 x=zhe x:=rfl
theorem ziq(b o:Nat)(w:World):(zhe (.pointer (some ⟨b,o,none⟩))).run Tryz.prog w=match zu w b o 64 with | some A=> .ok (.agg A) w | none=>qdz Tryz.prog 220 w b o :=
 z6 220 64 _ Tryz.underlying220 rfl Tryz.infoW64 b o w
theorem qbg.row{k:IntKind}{w:World}{b:Nat}{ws:List Int}(h:qbg k w b ws){n:Nat}(g:ws.length=n):zu w b 0 n=some (ws.map (Value.int k)).toArray:=by
 obtain⟨T,h⟩:=h;exact qag h n (by simp[g])
attribute [local go_sem ↓ high] q0p
attribute [local go_sem] ziq
attribute [local go_sem ↓] Go.wp_at_zero Go.wp_at_succ
theorem qky{P:Program}{l:Func}{p u:Tmp}{i:TypeId}(h:l.results=#[.cell p i,.tmp u])(tmps:Array Value)(w:World)(g:Nat)(t:TypeId)(cs:Array Value)(fr:Nat × Nat)(d:TypeDesc)
  (q:tmps.getD p undef = .pointer (some ⟨g,0,none⟩)) (m:w.heap[g]? = some (.cells cs t fr))
  (v:P.underlying i=some d) (hd:(match d with | .struct _ | .array _ _=>true | _=>false)=true) (o:(P.info? i).map (·.size)=some cs.size) :
  (results l tmps).run P w = .ok (.tuple #[.agg cs,tmps.getD u undef]) w:=by
 rw[results_cell_tmp h,q]
 simp[asAddr,run_loadVar_row w g t i cs fr d m v hd o,Result.andThen]
theorem Tryz.infoW8:(Tryz.prog.info? 184).map (·.size)=some 8:=by kernel_rfl
def qn5(h:List Int)(s:ByteArray):List Int:=qco (qfp (qaz s 48) h 64) h 8
theorem qxd(h:List Int)(s:ByteArray)(g:h.length=8∧qf5 h):(qn5 h s).length=8∧qf5 (qn5 h s):=qhs _ _ _ g
set_option maxRecDepth 100000 in
set_option maxHeartbeats 4000000 in
theorem qw6(h:List Int)(s:ByteArray)(w:World)(hh:h.length=8)(hu:qf5 h)(hs:s.size=64)(f8:Tabs w) :
  Calls Tryz.prog 132 #[.agg (h.map (Value.int .u32)).toArray,.string s] w fun e w'=>e = .returned (.tuple #[.agg ((qn5 h s).map (Value.int .u32)).toArray,.bool true])∧qq w w':=by
 have hw:=f8.lt
 obtain⟨H,I,F,J,K,L,M,N,rfl⟩:∃a b c d e f g i,h=[a,b,c,d,e,f,g,i]:=by
  match h,hh with
  | [a,b,c,d,e,f,g,i],_=>exact⟨a,b,c,d,e,f,g,i,rfl⟩
 simp only[List.map_cons,List.map_nil]
 go_enter Tryz.func132,Tryz.ntmps132
 go_upto_region 4 with fail
 obtain⟨wA,a8⟩:∃wA:World,wA=((w.alloc (.cells #[.int .u32 H,.int .u32 I,.int .u32 F,.int .u32 J,.int .u32 K,.int .u32 L,.int .u32 M,.int .u32 N] 184)).alloc (.cells #[.int .u32 0,.int .u32 0,.int .u32 0,.int .u32 0,.int .u32 0,.int .u32 0,.int .u32 0,.int .u32 0] 184)).alloc (.cells #[.int .u32 0,.int .u32 0,.int .u32 0,.int .u32 0,.int .u32 0,.int .u32 0,.int .u32 0,.int .u32 0,.int .u32 0,.int .u32 0,.int .u32 0,.int .u32 0,.int .u32 0,.int .u32 0,.int .u32 0,.int .u32 0,.int .u32 0,.int .u32 0,.int .u32 0,.int .u32 0,.int .u32 0,.int .u32 0,.int .u32 0,.int .u32 0,.int .u32 0,.int .u32 0,.int .u32 0,.int .u32 0,.int .u32 0,.int .u32 0,.int .u32 0,.int .u32 0,.int .u32 0,.int .u32 0,.int .u32 0,.int .u32 0,.int .u32 0,.int .u32 0,.int .u32 0,.int .u32 0,.int .u32 0,.int .u32 0,.int .u32 0,.int .u32 0,.int .u32 0,.int .u32 0,.int .u32 0,.int .u32 0,.int .u32 0,.int .u32 0,.int .u32 0,.int .u32 0,.int .u32 0,.int .u32 0,.int .u32 0,.int .u32 0,.int .u32 0,.int .u32 0,.int .u32 0,.int .u32 0,.int .u32 0,.int .u32 0,.int .u32 0,.int .u32 0] 220):=⟨_,rfl⟩
 have sA:wA.heap.size=w.heap.size+3:=by rw[a8];simp
 have nA:qq w wA:=by rw[a8];exact(((Upd.refl _ _).alloc _).alloc _).alloc _
 have vA:qbg .u32 wA w.heap.size [H,I,F,J,K,L,M,N]:=by rw[a8];exact⟨_,zr (zr (qi _ _) _) _⟩
 have vB:qbg .u32 wA (w.heap.size+1) [0,0,0,0,0,0,0,0]:=by
  rw[a8];have:=qi (w.alloc (.cells #[.int .u32 H,.int .u32 I,.int .u32 F,.int .u32 J,.int .u32 K,.int .u32 L,.int .u32 M,.int .u32 N] 184)) (.cells #[.int .u32 0,.int .u32 0,.int .u32 0,.int .u32 0,.int .u32 0,.int .u32 0,.int .u32 0,.int .u32 0] 184);rw[World.size_alloc] at this;exact⟨_,zr this _⟩
 have vW:qbg .u32 wA (w.heap.size+1+1) (List.replicate 64 0):=by
  rw[a8];have:=qi ((w.alloc (.cells #[.int .u32 H,.int .u32 I,.int .u32 F,.int .u32 J,.int .u32 K,.int .u32 L,.int .u32 M,.int .u32 N] 184)).alloc (.cells #[.int .u32 0,.int .u32 0,.int .u32 0,.int .u32 0,.int .u32 0,.int .u32 0,.int .u32 0,.int .u32 0] 184)) (.cells #[.int .u32 0,.int .u32 0,.int .u32 0,.int .u32 0,.int .u32 0,.int .u32 0,.int .u32 0,.int .u32 0,.int .u32 0,.int .u32 0,.int .u32 0,.int .u32 0,.int .u32 0,.int .u32 0,.int .u32 0,.int .u32 0,.int .u32 0,.int .u32 0,.int .u32 0,.int .u32 0,.int .u32 0,.int .u32 0,.int .u32 0,.int .u32 0,.int .u32 0,.int .u32 0,.int .u32 0,.int .u32 0,.int .u32 0,.int .u32 0,.int .u32 0,.int .u32 0,.int .u32 0,.int .u32 0,.int .u32 0,.int .u32 0,.int .u32 0,.int .u32 0,.int .u32 0,.int .u32 0,.int .u32 0,.int .u32 0,.int .u32 0,.int .u32 0,.int .u32 0,.int .u32 0,.int .u32 0,.int .u32 0,.int .u32 0,.int .u32 0,.int .u32 0,.int .u32 0,.int .u32 0,.int .u32 0,.int .u32 0,.int .u32 0,.int .u32 0,.int .u32 0,.int .u32 0,.int .u32 0,.int .u32 0,.int .u32 0,.int .u32 0,.int .u32 0] 220);rw[World.size_alloc,World.size_alloc] at this;exact⟨_,this⟩
 rw[←a8]
 clear a8
 have TA:=f8.new nA
 generalize f2:w.heap.size=A at *
 have c6:=qb f2
 clear f2
 have n2:A+3≤wA.heap.size:=by omega
 clear sA
 obtain⟨wo,rfl⟩:∃wo:World,wo=wA:=⟨_,rfl⟩
 go_wp2_with fail
 go_loopw [7,30] (fun _ iv wr=>∃k:Nat,iv = .int .i64 (k:Int)∧k≤64∧qbg .u32 wr (A+1+1) (qba s k)∧Upd (fun k=>k=A+1+1) wo wr) (fun _ iv _=>64-(intOf iv).toNat)
 case atStart=>exact⟨0,rfl,by omega,vW,Upd.refl _ _⟩
 case round =>
  obtain⟨k,rfl,hk,hW,P⟩:=hrel;by_cases n1:k<64
  ·have c2:=qik s k;have c0:=hW.cell (i:=k / 4) (by omega);have z0:=hW.free (k / 4);have O:=hW.set (k / 4) (bits .or .u32 (wd (qba s k) (k / 4)*256%4294967296) (bt s k));obtain⟨j6,j7⟩:=(qqa s k).at (k / 4);rw[show (qba s k).set (k / 4) (bits .or .u32 (wd (qba s k) (k / 4)*256%4294967296) (bt s k))=qba s (k+1) from(qfz s k).symm] at O;change wr.cell? _=some (.int .u32 (wd (qba s k) (k / 4))) at c0;have j8:∀W:World,(Instr.index 9 (.string s) (.int .i64 (k:Int))).run Tryz.prog W = .ok (.int .u8 (bt s k)) W:=fun W=>qou _ s _ _ k Tryz.underlying9 rfl (by omega) W
   obtain⟨g5,g6⟩:=qzf s k;have e6:(k:Int)<64:=by omega
   have d4:((k:Int) / 4).toNat=k / 4:=by omega
   have e7:(0:Int)≤(k:Int) / 4:=by omega
   have e8:(k:Int) / 4<64:=by omega
   have e9:IntKind.i64.wrap ((k:Int) / 4)=(k:Int) / 4:=IntWalk.i64_in _ (by omega);have X:=qb O;clear O c2 hW;generalize wd (qba s k) (k / 4)=x at c0 j6 j7 X;generalize bt s k=y at j8 g5 g6 X;have b8:IntKind.u32.wrap (x*256)=x*256%4294967296:=by rw[IntKind.wrap_u32]
   have c7:IntKind.u32.wrap y=y:=IntWalk.u32_in _ (by omega);go_wp2_with fail;go_region_law (fail)
   all_goals
    have us:=P.set1 (k / 4) (.int .u32 (bits .or .u32 (x*256%4294967296) y));have Z:=qa X;generalize wr.setCell ⟨A+1+1,k / 4,none⟩ (.int .u32 (bits .or .u32 (x*256%4294967296) y))=wS at *
    go_wp2;go_roundw
    case rel=>exact⟨k+1,by go_num,by omega,(Z:qbg .u32 wS _ _),us.drew⟩
    case measure=>simp[intOf];omega
  ·obtain rfl:k=64:=by omega
   rw[show ((64:Nat):Int)=64 from rfl];have i5:=vA.upd P (by omega);have i7:=vB.upd P (by omega);have l7:=P.size;have u0:=P;clear vA vB vW P;obtain⟨w2,rfl⟩:∃w2:World,w2=wr:=⟨_,rfl⟩;go_wp2_with fail
   go_loopw [8,9,10,11,12] (fun iv _ _ _ _ wr=>∃j:Nat,iv = .int .i64 ((j:Int)+16)∧j≤48∧qbg .u32 wr (A+1+1) (qaz s j)∧Upd (fun k=>k=A+1+1) w2 wr) (fun iv _ _ _ _ _=>64-(intOf iv).toNat)
   case atStart=>exact⟨0,rfl,by omega,by rw[qhf];exact hW,Upd.refl _ _⟩
   case round =>
    clear hW;obtain⟨j,rfl,hj,hW,P⟩:=hrel;by_cases l5:j<48
    ·have c2:=qd5 s j;have hr:=qir s j;have c1:wr.cell? ⟨A+1+1,j+1,none⟩=some (.int .u32 (wd (qaz s j) (j+1))):=hW.cell (by omega);have e5:wr.cell? ⟨A+1+1,j+14,none⟩=some (.int .u32 (wd (qaz s j) (j+14))):=hW.cell (by omega);obtain⟨r1,i3⟩:=hr.at (j+1);obtain⟨i4,d2⟩:=hr.at (j+14);obtain⟨r0,k5⟩:=hr.at j;obtain⟨r9,k6⟩:=hr.at (j+9);have o:=qhe s j;unfold qtm q1r sig1 at o;have HN:=qb o;have HW:=qb hW;have e6:(j:Int)<48:=by omega
     have d4:IntKind.i64.wrap ((j:Int)+16-15)=(j:Int)+1:=by rw[IntWalk.i64_in _ (by omega)];omega
     have e7:IntKind.i64.wrap ((j:Int)+16-2)=(j:Int)+14:=by rw[IntWalk.i64_in _ (by omega)];omega
     have e8:((j:Int)+1).toNat=j+1:=by omega
     have e9:((j:Int)+14).toNat=j+14:=by omega
     clear hW hr c2 o;generalize hx:wd (qaz s j) (j+1)=x at c1 r1 i3 HN;generalize hy:wd (qaz s j) (j+14)=y at e5 i4 d2 HN;clear hx hy;go_wp2_with fail;go_quiet (fail);go_wp2_with fail;refine(qwd x 7 18 _ _ _ (by decide) (by decide) r1 i3 (by exact qi _ _)).mono ?_;rintro e w5 ⟨rfl,q5⟩;have n5:qq wr w5:=(((Upd.refl _ wr).drewN _).alloc _).trans (q5.upd _);clear q5;go_wp2_with fail;refine(qwd y 17 19 _ _ _ (by decide) (by decide) i4 d2 (by exact qi _ _)).mono ?_;rintro e w6 ⟨rfl,q6⟩;have n6:qq wr w6:=n5.trans (((Upd.refl _ w5).alloc _).trans (q6.upd _));clear n5 q6 c1 e5;have a9:=(qa HW).upd n6 (fun h=>h);have c0:w6.cell? ⟨A+1+1,j,none⟩=some (.int .u32 (wd (qaz s j) j)):=a9.cell (by rw[qd5];omega);have c9:w6.cell? ⟨A+1+1,j+9,none⟩=some (.int .u32 (wd (qaz s j) (j+9))):=a9.cell (by rw[qd5];omega);obtain⟨n3,m3⟩:∃v,w6.cell? ⟨A+1+1,j+16,none⟩=some v:=⟨_,a9.cell (by rw[qd5];omega)⟩;have n4:=a9.free (j+16);go_upto_region 15 with fail;obtain⟨p0,p1⟩:=qb7 .xor (qcc x [7,18]) (x / 8);obtain⟨p2,p3⟩:=qb7 .xor (qcc y [17,19]) (y / 1024);generalize bits .xor .u32 (qcc x [7,18]) (x / 8)=p at HN p0 p1 ⊢;generalize bits .xor .u32 (qcc y [17,19]) (y / 1024)=q at HN p2 p3 ⊢;generalize wd (qaz s j) j=a at c0 r0 k5 HN;generalize wd (qaz s j) (j+9)=b at c9 r9 k6 HN;have O:=a9.set (j+16) ((a+p+b+q)%4294967296);rw[←qa HN] at O;have X:=qb O;have u6:=P.then n6 (fun _ _ h=>h.elim);clear O a9 n6 HW HN d4 e7 e8 e9;have b8:IntKind.i64.wrap (j:Int)=(j:Int):=IntWalk.i64_in _ (by omega);have c7:IntKind.i64.wrap ((j:Int)+16-7)=(j:Int)+9:=by rw[IntWalk.i64_in _ (by omega)];omega
     have m5:(j:Int)<64:=by omega
     have m6:(j:Int)+9<64:=by omega
     have m7:(j:Int)+16<64:=by omega
     have m8:(0:Int)≤(j:Int)+9:=by omega
     have m9:(0:Int)≤(j:Int)+16:=by omega
     have f0:((j:Int)+9).toNat=j+9:=by omega
     have f1:((j:Int)+16).toNat=j+16:=by omega
     have d5:IntKind.u32.wrap (a+p)=(a+p)%4294967296:=by rw[IntKind.wrap_u32]
     have d6:IntKind.u32.wrap ((a+p)%4294967296+b)=(a+p+b)%4294967296:=by rw[IntKind.wrap_u32];omega
     have j5:IntKind.u32.wrap ((a+p+b)%4294967296+q)=(a+p+b+q)%4294967296:=by rw[IntKind.wrap_u32];omega
     go_wp2_with fail;go_region_law (fail)
     all_goals
      have us:=u6.set1 (j+16) (.int .u32 ((a+p+b+q)%4294967296));have Z:=qa X;generalize w6.setCell ⟨A+1+1,j+16,none⟩ (.int .u32 ((a+p+b+q)%4294967296))=wS at *
      clear d5 d6 j5 b8 c7;go_wp2;go_roundw
      case rel=>exact⟨j+1,by first | (rw[show ((j+1:Nat):Int)+16=(j:Int)+16+1 by omega];done) | (simp;omega),by omega,(Z:qbg .u32 wS _ _),us.drew⟩
      case measure=>simp[intOf];omega
    ·obtain rfl:j=48:=by omega
     rw[show ((48:Nat):Int)+16=64 from rfl];have V:=i5.upd P (by omega);have i8:=i7.upd P (by omega);have u3:=u0.trans P;have l9:=P.size;obtain⟨w3,rfl⟩:∃w3:World,w3=wr:=⟨_,rfl⟩;have a0:=V.cell (i:=0) (by simp);have a1:=V.cell (i:=1) (by simp);have a2:=V.cell (i:=2) (by simp);have a3:=V.cell (i:=3) (by simp);have a4:=V.cell (i:=4) (by simp);have a5:=V.cell (i:=5) (by simp);have a6:=V.cell (i:=6) (by simp);have a7:=V.cell (i:=7) (by simp);simp at a0 a1 a2 a3 a4 a5 a6 a7;have e3:=qb hW;clear i5 i7 u0 P hW;have g7:=(qa e3).row (qd5 s 48);go_upto_region 17 with fail;have vV:=qbg.of (k:= .u32) (ws:=[H,I,F,J,K,L,M,N]) (qi w3 (.cells #[.int .u32 H,.int .u32 I,.int .u32 F,.int .u32 J,.int .u32 K,.int .u32 L,.int .u32 M,.int .u32 N] 184)) rfl;have nV:qq w3 (w3.alloc (.cells #[.int .u32 H,.int .u32 I,.int .u32 F,.int .u32 J,.int .u32 K,.int .u32 L,.int .u32 M,.int .u32 N] 184)):=(Upd.refl _ _).alloc _;generalize w3.alloc (.cells #[.int .u32 H,.int .u32 I,.int .u32 F,.int .u32 J,.int .u32 K,.int .u32 L,.int .u32 M,.int .u32 N] 184)=w4 at vV nV ⊢;have c4:=qa6 g7 nV (fun h=>h);have k3:=qd5 s 48;have i0:=qir s 48;have m2:=vV.lt;have l8:=nV.size;have TT:=(TA.upd u3 (by omega) (by omega)).new nV;clear g7 e3 a0 a1 a2 a3 a4 a5 a6 a7;generalize h9:qaz s 48=ws at c4 k3 i0;have e4:=qb h9;clear h9;generalize f3:(ws.map (Value.int .u32)).toArray=Cw at c4;have c8:∀(k:Nat) (W:World),k<64→(Instr.index 220 (.agg Cw) (.int .i64 (k:Int))).run Tryz.prog W = .ok (.int .u32 (wd ws k)) W:=by
      intro k W hk;have e1:Cw[k]? = some (.int .u32 (wd ws k)):=by
       rw[←f3,List.getElem?_toArray,List.getElem?_map,List.getElem?_eq_getElem (by omega),wd,List.getD_eq_getElem?_getD,List.getElem?_eq_getElem (by omega)];rfl
      have F:0≤(k:Int)∧(k:Int)<((64:Nat):Int):=by omega
      simp[Instr.index,run_underlying Tryz.underlying220,asIntOf,F,e1,go_sem];intro l4;omega
     have HX:=qb c8;clear c8 f3;obtain⟨w5,rfl⟩:∃w5:World,w5=w4:=⟨_,rfl⟩;go_wp2_with fail
     go_loopw [14,15,16,17,18,19,20,21,22,23,24,88] (fun _ _ _ _ _ _ _ _ _ _ _ iv wr=>∃k:Nat,iv = .int .i64 (k:Int)∧k≤64∧qbg .u32 wr w3.heap.size (qfp ws [H,I,F,J,K,L,M,N] k)∧Upd (fun k=>k=w3.heap.size) w5 wr) (fun _ _ _ _ _ _ _ _ _ _ _ iv _=>64-(intOf iv).toNat)
     case atStart=>exact⟨0,rfl,by omega,by rw[qnr];exact vV,Upd.refl _ _⟩
     case round =>
      obtain⟨k,rfl,hk,hV,P⟩:=hrel;by_cases d1:k<64
      ·have hok:=qos ws [H,I,F,J,K,L,M,N] k ⟨rfl,hu⟩;have o:=qnq ws [H,I,F,J,K,L,M,N] k;generalize hv:qfp ws [H,I,F,J,K,L,M,N] k=v at hV hok o;clear hv;obtain⟨h8,T⟩:=hok;obtain⟨a,b,c,d,e,f,g,l,rfl⟩:=qce h8;clear h8;have HN:=qb o;have v0:=hV.cell (i:=0) (by simp);have v1:=hV.cell (i:=1) (by simp);have v2:=hV.cell (i:=2) (by simp);have v3:=hV.cell (i:=3) (by simp);have v4:=hV.cell (i:=4) (by simp);have v5:=hV.cell (i:=5) (by simp);have v6:=hV.cell (i:=6) (by simp);have v7:=hV.cell (i:=7) (by simp);simp at v0 v1 v2 v3 v4 v5 v6 v7;have HV:=qb hV;clear o hV;have ix:=qa HX k wr d1;have tk:=(TT.upd P (by omega) (by omega)).table k d1;obtain⟨t0,k7⟩:=q0l.at k;obtain⟨x0,l3⟩:=i0.at k;change wr.cell? _=some (.int .u32 (wd qk5 k)) at tk;generalize f4:wd qk5 k=kk at tk t0 k7;generalize g4:wd ws k=wk at ix x0 l3;have b0:=T a (by simp);have b1:=T b (by simp);have b2:=T c (by simp);have b3:=T d (by simp);have b4:=T e (by simp);have b5:=T f (by simp);have b6:=T g (by simp);have b7:=T l (by simp);obtain⟨j3,j4⟩:=b4;have BB:=qb (And.intro b0 (And.intro b1 (And.intro b2 (And.intro b3 (And.intro b5 (And.intro b6 b7))))));clear b0 b1 b2 b3 b5 b6 b7;have n0:(k:Int)<64:=by omega
       clear T;obtain⟨wq,rfl⟩:∃wq:World,wq=wr:=⟨_,rfl⟩;go_wp2_with fail;go_quiet (fail);clear v0 v1 v2 v3 v4 v5 v6 ix;obtain⟨T0,T1⟩:=qmx e [6,11,25];obtain⟨p0,p1⟩:=qb7 .xor (bits .and .u32 e f) (bits .and .u32 (bits .xor .u32 4294967295 e) g);generalize d7:qcc e [6,11,25]=te at T0 T1;generalize f7:bits .xor .u32 (bits .and .u32 e f) (bits .and .u32 (bits .xor .u32 4294967295 e) g)=p at p0 p1;have c3:q80 e f g l (qk5.getD k 0) (wd ws k)=(l+te+p+kk+wk)%4294967296:=by
        unfold q80 chI;rw[d7,f7,g4,show qk5.getD k 0=kk from f4]
       clear f4 g4;obtain⟨E,f6⟩:∃E:Int,E=(l+te+p+kk+wk)%4294967296:=⟨_,rfl⟩;rw[←f6] at c3;have d8:=qb c3;clear c3;have b8:IntKind.u32.wrap (l+te)=(l+te)%4294967296:=by rw[IntKind.wrap_u32]
       have c7:IntKind.u32.wrap ((l+te)%4294967296+p)=(l+te+p)%4294967296:=by rw[IntKind.wrap_u32];omega
       have f0:IntKind.u32.wrap ((l+te+p)%4294967296+kk)=(l+te+p+kk)%4294967296:=by rw[IntKind.wrap_u32];omega
       have f1:IntKind.u32.wrap ((l+te+p+kk)%4294967296+wk)=E:=by rw[IntKind.wrap_u32];omega
       clear f6;have d5:(k:Int).toNat=k:=by omega
       have d6:IntKind.i64.wrap (k:Int)=(k:Int):=IntWalk.i64_in _ (by omega);go_wp2_with fail;refine zjm (by kernel_rfl) [[],[(0,106)],[],[],[(2,108),(3,109)],[(1,107),(4,110)],[],[],[(6,112),(7,113)],[],[(9,115)],[],[(10,116),(11,117)],[(8,114),(12,118)],[(5,111),(13,119)],[],[(15,121)],[(16,122)],[(14,120),(17,123)],[],[(18,124),(19,125)],[(20,126)]] 169 (by rfl) (by kernel_rfl)
        [(0,106),(1,107),(2,108),(3,109),(4,110),(5,111),(6,112),(7,113),(8,114),(9,115),(10,116),(11,117),(12,118),(13,119),(14,120),(15,121),(16,122),(17,123),(18,124),(19,125),(20,126),(21,23)] (by kernel_rfl) (fun w'=>qq wq w') qq
        (zf9 [.pointer (some ⟨w3.heap.size,7,none⟩),.int .u32 (l),.int .u32 (e),undef,.int .u32 (te),.int .u32 ((l+te)%4294967296),.int .u32 (e),.int .u32 (f),.int .u32 (bits .and .u32 e f),.int .u32 (e),.int .u32 (bits .xor .u32 4294967295 e),.int .u32 (g),.int .u32 (bits .and .u32 (bits .xor .u32 4294967295 e) g),.int .u32 (p),.int .u32 ((l+te+p)%4294967296),.int .i64 (k:Int),.pointer (some ⟨3,k,none⟩),.int .u32 (kk),.int .u32 ((l+te+p+kk)%4294967296),.int .u32 (wk),.int .u32 E,.int .u32 E] #[.int .u64 6,.int .u64 11,.int .u64 25]) (((Upd.refl _ wq).drewN _).drew) (fun w=>Upd.refl _ w) (fun i v w w' _ _ n h=>zc5 i v n h) ?_ ?_
       ·have q7:∀ {w':World},qq wq w'→w'.cell? ⟨w3.heap.size,7,none⟩=some (.int .u32 l):=fun n=>n.cell v7 (fun h=>h)
        have qt:∀ {w':World},qq wq w'→w'.cell? ⟨3,k,none⟩=some (.int .u32 kk):=fun n=>n.cell tk (fun h=>h)
        refine qaf.plain rfl ?_ (qaf.plain rfl ?_ (qaf.plain rfl ?_ (qaf.plain rfl ?_ (qaf.plain rfl ?_ (qaf.plain rfl ?_ (qaf.plain rfl ?_ (qaf.plain rfl ?_ (qaf.plain rfl ?_ (qaf.plain rfl ?_ (qaf.plain rfl ?_ (qaf.plain rfl ?_ (qaf.plain rfl ?_ (qaf.plain rfl ?_ (qaf.plain rfl ?_ (qaf.plain rfl ?_ (qaf.plain rfl ?_ (qaf.plain rfl ?_ (qaf.plain rfl ?_ (qaf.plain rfl ?_ (qaf.plain rfl ?_ (qaf.plain rfl ?_ (qaf.nil))))))))))))))))))))))
        ·intro qm w' t _;unfold zq;simp only[putL];go_simp
         first | exact⟨Upd.refl _ _,rfl⟩ | exact⟨Upd.refl _ _,t,rfl⟩ | skip
        ·rintro qm w' t ⟨C,-⟩;replace C:qm 0 = .pointer (some ⟨w3.heap.size,7,none⟩):=C;have q7:=q7 t;unfold zq;simp only[putL];go_simp
         first | exact⟨Upd.refl _ _,rfl⟩ | exact⟨Upd.refl _ _,t,rfl⟩ | skip
        ·intro qm w' t _;unfold zq;simp only[putL];go_simp
         first | exact⟨Upd.refl _ _,rfl⟩ | exact⟨Upd.refl _ _,t,rfl⟩ | skip
        ·intro qm w' t _;unfold zq;simp only[putL];go_simp
         first | exact⟨(Upd.refl _ _).alloc _,t.trans ((Upd.refl _ _).alloc _),_,_,rfl,qi _ _⟩ | skip
        ·rintro qm w' t ⟨C,R,-⟩;replace C:qm 2 = .int .u32 (e):=C;obtain⟨g3,T3,R,hb⟩:=R;unfold zq;simp only[putL];go_simp;refine(qqq e 6 11 25 _ _ _ (by decide) (by decide) (by decide) j3 j4 hb).mono ?_;rintro e2 w2 ⟨rfl,q2⟩;exact⟨_,rfl,q2.upd _,t.trans (q2.upd _),by rw[d7];rfl⟩
        ·rintro qm w' t ⟨C,R,-⟩;replace C:qm 1 = .int .u32 (l):=C;replace R:qm 4 = .int .u32 (te):=R;unfold zq;simp only[putL];go_simp
         first | exact⟨Upd.refl _ _,rfl⟩ | exact⟨Upd.refl _ _,t,rfl⟩ | skip
        ·intro qm w' t _;unfold zq;simp only[putL];go_simp
         first | exact⟨Upd.refl _ _,rfl⟩ | exact⟨Upd.refl _ _,t,rfl⟩ | skip
        ·intro qm w' t _;unfold zq;simp only[putL];go_simp
         first | exact⟨Upd.refl _ _,rfl⟩ | exact⟨Upd.refl _ _,t,rfl⟩ | skip
        ·rintro qm w' t ⟨C,R,-⟩;replace C:qm 6 = .int .u32 (e):=C;replace R:qm 7 = .int .u32 (f):=R;unfold zq;simp only[putL];go_simp
         first | exact⟨Upd.refl _ _,rfl⟩ | exact⟨Upd.refl _ _,t,rfl⟩ | skip
        ·intro qm w' t _;unfold zq;simp only[putL];go_simp
         first | exact⟨Upd.refl _ _,rfl⟩ | exact⟨Upd.refl _ _,t,rfl⟩ | skip
        ·rintro qm w' t ⟨C,-⟩;replace C:qm 9 = .int .u32 (e):=C;unfold zq;simp only[putL];go_simp
         first | exact⟨Upd.refl _ _,rfl⟩ | exact⟨Upd.refl _ _,t,rfl⟩ | skip
        ·intro qm w' t _;unfold zq;simp only[putL];go_simp
         first | exact⟨Upd.refl _ _,rfl⟩ | exact⟨Upd.refl _ _,t,rfl⟩ | skip
        ·rintro qm w' t ⟨C,R,-⟩;replace C:qm 10 = .int .u32 (bits .xor .u32 4294967295 e):=C;replace R:qm 11 = .int .u32 (g):=R;unfold zq;simp only[putL];go_simp
         first | exact⟨Upd.refl _ _,rfl⟩ | exact⟨Upd.refl _ _,t,rfl⟩ | skip
        ·rintro qm w' t ⟨C,R,-⟩;replace C:qm 8 = .int .u32 (bits .and .u32 e f):=C;replace R:qm 12 = .int .u32 (bits .and .u32 (bits .xor .u32 4294967295 e) g):=R;unfold zq;simp only[putL];go_simp
         first | exact⟨Upd.refl _ _,rfl⟩ | exact⟨Upd.refl _ _,t,rfl⟩ | skip
        ·rintro qm w' t ⟨C,R,-⟩;replace C:qm 5 = .int .u32 ((l+te)%4294967296):=C;replace R:qm 13 = .int .u32 (p):=R;unfold zq;simp only[putL];go_simp
         first | exact⟨Upd.refl _ _,rfl⟩ | exact⟨Upd.refl _ _,t,rfl⟩ | skip
        ·intro qm w' t _;unfold zq;simp only[putL];go_simp
         first | exact⟨Upd.refl _ _,rfl⟩ | exact⟨Upd.refl _ _,t,rfl⟩ | skip
        ·rintro qm w' t ⟨C,-⟩;replace C:qm 15 = .int .i64 (k:Int):=C;unfold zq;simp only[putL];go_simp
         first | exact⟨Upd.refl _ _,rfl⟩ | exact⟨Upd.refl _ _,t,rfl⟩ | skip
        ·rintro qm w' t ⟨C,-⟩;replace C:qm 16 = .pointer (some ⟨3,k,none⟩):=C;have qt:=qt t;unfold zq;simp only[putL];go_simp
         first | exact⟨Upd.refl _ _,rfl⟩ | exact⟨Upd.refl _ _,t,rfl⟩ | skip
        ·rintro qm w' t ⟨C,R,-⟩;replace C:qm 14 = .int .u32 ((l+te+p)%4294967296):=C;replace R:qm 17 = .int .u32 (kk):=R;unfold zq;simp only[putL];go_simp
         first | exact⟨Upd.refl _ _,rfl⟩ | exact⟨Upd.refl _ _,t,rfl⟩ | skip
        ·intro qm w' t _;unfold zq;simp only[putL];go_simp
         first | exact⟨Upd.refl _ _,rfl⟩ | exact⟨Upd.refl _ _,t,rfl⟩ | skip
        ·rintro qm w' t ⟨C,R,-⟩;replace C:qm 18 = .int .u32 ((l+te+p+kk)%4294967296):=C;replace R:qm 19 = .int .u32 (wk):=R;unfold zq;simp only[putL];go_simp
         first | exact⟨Upd.refl _ _,rfl⟩ | exact⟨Upd.refl _ _,t,rfl⟩ | skip
        ·rintro qm w' t ⟨C,-⟩;replace C:qm 20 = .int .u32 E:=C;unfold zq;simp only[putL];go_simp
         first | exact⟨Upd.refl _ _,rfl⟩ | exact⟨Upd.refl _ _,t,rfl⟩ | skip
       ·intro qm w9 n9 g8;have Y:=g8 21 (by decide);replace Y:qm 21 = .int .u32 E:=Y;clear g8;simp only[putL,Y];go_simp;clear Y;have e0:=(qa HV).upd n9 (fun h=>h);have u9:=P.then n9 (fun _ _ h=>h.elim);have j0:=qb e0;obtain⟨⟨a0,d3⟩,-,-,⟨d0,m4⟩,-⟩:=qa BB;clear e0 HV v7 tk n9 b8 c7 f0 f1 d5 d6 BB d7 f7;obtain⟨wz,rfl⟩:∃wz:World,wz=w9:=⟨_,rfl⟩;go_wp2_with fail;refine(qqq a 2 13 22 _ _ _ (by decide) (by decide) (by decide) a0 d3 (by exact qi _ _)).mono ?_;rintro e2 k9 ⟨rfl,i2⟩;have i1:qq wz k9:=(((Upd.refl _ wz)).alloc _).trans (i2.upd _);clear i2;have D:=(qa j0).upd i1 (fun h=>h);have k8:=u9.then i1 (fun _ _ h=>h.elim);generalize f9:qcc a [2,13,22]=ta;have k0:∀m:Int,IntKind.u32.wrap (ta+m)=(ta+m)%4294967296:=fun m=>by rw[IntKind.wrap_u32]
        go_upto_region 23 with fail;generalize f5:bits .xor .u32 (bits .xor .u32 (bits .and .u32 a b) (bits .and .u32 a c)) (bits .and .u32 b c)=ma;have c5:zej a b c=(ta+ma)%4294967296:=by unfold zej q3w;rw[f9,f5]
        obtain⟨two,g2⟩:∃two:Int,two=(ta+ma)%4294967296:=⟨_,rfl⟩;rw[←g2] at c5 ⊢;have d9:=qb c5;clear c5 f9 f5 g2 k0;have k1:IntKind.u32.wrap (E+two)=(E+two)%4294967296:=by rw[IntKind.wrap_u32]
        have k2:IntKind.u32.wrap (d+E)=(d+E)%4294967296:=by rw[IntKind.wrap_u32]
        have z:=fun i=>D.free i
        have v0:=D.cell (i:=0) (by simp);have v1:=D.cell (i:=1) (by simp);have v2:=D.cell (i:=2) (by simp);have v3:=D.cell (i:=3) (by simp);have v4:=D.cell (i:=4) (by simp);have v5:=D.cell (i:=5) (by simp);have v6:=D.cell (i:=6) (by simp);have v7:=D.cell (i:=7) (by simp);simp at v0 v1 v2 v3 v4 v5 v6 v7;have j1:=qb D;clear D;go_wp2_with fail;have O:=((((((((qa j1).set 0 ((E+two)%4294967296)).set 1 a).set 2 b).set 3 c).set 4 ((d+E)%4294967296)).set 5 e).set 6 f).set 7 g;have us:=(((((((k8.set1 0 (.int .u32 ((E+two)%4294967296))).set1 1 (.int .u32 a)).set1 2 (.int .u32 b)).set1 3 (.int .u32 c)).set1 4 (.int .u32 ((d+E)%4294967296))).set1 5 (.int .u32 e)).set1 6 (.int .u32 f)).set1 7 (.int .u32 g);have j9:qfp ws [H,I,F,J,K,L,M,N] (k+1)=[(E+two)%4294967296,a,b,c,(d+E)%4294967296,e,f,g]:=by
         rw[qa HN];simp only[qns];rw[qa d8,qa d9]
        go_roundw
        case rel=>exact⟨k+1,by go_num,by omega,by rw[j9];exact O,us⟩
        case measure=>simp[intOf];omega
      ·obtain rfl:k=64:=by omega
       rw[show ((64:Nat):Int)=64 from rfl];have m0:=P.size;have i6:=(V.upd nV (fun h=>h)).upd P (by omega);have i9:=(i8.upd nV (fun h=>h)).upd P (by omega);have nn:=((nA.then u3 (by intro q hq h;rw[qa c6] at hq;omega)).trans nV).then P (by intro q hq h;rw[qa c6] at hq;omega);have g9:=qos ws [H,I,F,J,K,L,M,N] 64 ⟨rfl,hu⟩;have HR:=qb (show qfp (qaz s 48) [H,I,F,J,K,L,M,N] 64=qfp ws [H,I,F,J,K,L,M,N] 64 by rw[qa e4]);generalize qfp ws [H,I,F,J,K,L,M,N] 64=v at hV g9 HR;clear P V i8 u3 nV c4 HX vV TT;obtain⟨h8,T⟩:=g9;obtain⟨w6,rfl⟩:∃w6:World,w6=wr:=⟨_,rfl⟩;go_wp2_with fail
       go_loopw [25,156] (fun _ iv wr=>∃i:Nat,iv = .int .i64 (i:Int)∧i≤8∧qbg .u32 wr A (qco v [H,I,F,J,K,L,M,N] i)∧Upd (fun k=>k=A) w6 wr) (fun _ iv _=>8-(intOf iv).toNat)
       case atStart=>exact⟨0,rfl,by omega,by rw[qjz];exact i6,Upd.refl _ _⟩
       case round =>
        obtain⟨i,rfl,hi,hA,P⟩:=hrel;by_cases l6:i<8
        ·have hok:=qhs v [H,I,F,J,K,L,M,N] i ⟨rfl,hu⟩;have o:=qjy v [H,I,F,J,K,L,M,N] i;unfold qrm at o;have c0:=hA.cell (i:=i) (by omega);have z0:=hA.free i;have c1:=(hV.upd P (by omega)).cell (i:=i) (by omega);obtain⟨a0,d3⟩:=hok.2.at i;obtain⟨b0,j2⟩:=T.at i;have O:=hA.set i ((wd (qco v [H,I,F,J,K,L,M,N] i) i+wd v i)%4294967296);rw[←o] at O;have X:=qb O;clear O o hok hA;change wr.cell? _=some (.int .u32 (wd (qco v [H,I,F,J,K,L,M,N] i) i)) at c0;change wr.cell? _=some (.int .u32 (wd v i)) at c1;generalize wd (qco v [H,I,F,J,K,L,M,N] i) i=x at c0 a0 d3 X;generalize wd v i=y at c1 b0 j2 X;have b8:IntKind.u32.wrap (x+y)=(x+y)%4294967296:=by rw[IntKind.wrap_u32]
         have e6:(i:Int)<8:=by omega
         have d4:(i:Int).toNat=i:=by omega
         go_wp2_with fail;go_region_law (fail)
         all_goals
          have us:=P.set1 i (.int .u32 ((x+y)%4294967296));have Z:=qa X;generalize wr.setCell ⟨A,i,none⟩ (.int .u32 ((x+y)%4294967296))=wS at *
          go_wp2;go_roundw
          case rel=>exact⟨i+1,by go_num,by omega,(Z:qbg .u32 wS _ _),us.drew⟩
          case measure=>simp[intOf];omega
        ·obtain rfl:i=8:=by omega
         rw[show ((8:Nat):Int)=8 from rfl];have b9:qn5 [H,I,F,J,K,L,M,N] s=qco v [H,I,F,J,K,L,M,N] 8:=by unfold qn5;rw[qa HR]
         have hok:=qhs v [H,I,F,J,K,L,M,N] 8 ⟨rfl,hu⟩;have U:=i9.upd P (by omega);have k4:=nn.then P (by intro q hq h;rw[qa c6] at hq;omega);generalize hr:qco v [H,I,F,J,K,L,M,N] 8=r at hA hok;rw[hr] at b9;clear hr HR i6 i9 P nn hV e4;obtain⟨r8,-⟩:=hok;obtain⟨a,b,c,d,e,f,g,l,rfl⟩:=qce r8;have HF:=qb b9;clear r8 b9;have z:=fun i=>U.free i
         have y0:=U.cell (i:=0) (by simp);have y1:=U.cell (i:=1) (by simp);have y2:=U.cell (i:=2) (by simp);have y3:=U.cell (i:=3) (by simp);have y4:=U.cell (i:=4) (by simp);have y5:=U.cell (i:=5) (by simp);have y6:=U.cell (i:=6) (by simp);have y7:=U.cell (i:=7) (by simp);have v0:=hA.cell (i:=0) (by simp);have v1:=hA.cell (i:=1) (by simp);have v2:=hA.cell (i:=2) (by simp);have v3:=hA.cell (i:=3) (by simp);have v4:=hA.cell (i:=4) (by simp);have v5:=hA.cell (i:=5) (by simp);have v6:=hA.cell (i:=6) (by simp);have v7:=hA.cell (i:=7) (by simp);simp at v0 v1 v2 v3 v4 v5 v6 v7 y0 y1 y2 y3 y4 y5 y6 y7;have HB:=qb U;clear U hA;obtain⟨wy,rfl⟩:∃wy:World,wy=wr:=⟨_,rfl⟩;go_wp2_with fail;have hB:=((((((((qa HB).set 0 a).set 1 b).set 2 c).set 3 d).set 4 e).set 5 f).set 6 g).set 7 l;have nB:=((((((((Upd.refl (fun k=>k=A+1) wy).set1 0 (.int .u32 a)).set1 1 (.int .u32 b)).set1 2 (.int .u32 c)).set1 3 (.int .u32 d)).set1 4 (.int .u32 e)).set1 5 (.int .u32 f)).set1 6 (.int .u32 g)).set1 7 (.int .u32 l);have nE:=k4.then nB (by intro q hq h;rw[qa c6] at hq;omega);replace hB:qbg .u32 _ (A+1) [a,b,c,d,e,f,g,l]:=hB;obtain⟨TB,hB⟩:=hB;refine bodyPost_ret (qky rfl _ _ (A+1) TB _ _ _ rfl hB Tryz.underlying184 rfl (by exact Tryz.infoW8)) rfl ?_;refine⟨?_,nE⟩;rw[qa HF];rfl
end Go.Proofs.YthnohmjbbeahmaaGreatDoor
