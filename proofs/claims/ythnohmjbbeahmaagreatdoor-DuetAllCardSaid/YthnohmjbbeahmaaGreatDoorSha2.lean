/-
  Package digest: Compress.
-/
import Derived.Test.YthnohmjbbeahmaaGreatDoorMbb
import Derived.BigRegion
import Derived.Deep.RegionLaw
import Derived.Deep.CutRange
import Derived.Deep.DrawnRows
import Derived.IntWalk
import Derived.Laws.ResultCell
import Derived.Test.YthnohmjbbeahmaaGreatDoorDag
set_option linter.unusedVariables false
set_option linter.unusedSimpArgs false
namespace Go.Proofs.YthnohmjbbeahmaaGreatDoor
open Go.RowKit
def wd(ws:List Int)(i:Nat):Int:=ws.getD i 0
def qr4(s:ByteArray)(ws:List Int)(k:Nat):List Int:=ws.set (k / 4) (bits .or .u32 (wd ws (k / 4)*256%4294967296) (bt s k))
def qba(s:ByteArray)(n:Nat):List Int:=(List.range n).foldl (qr4 s) (List.replicate 64 0)
theorem qfw(s:ByteArray)(n:Nat):qba s (n+1)=qr4 s (qba s n) n:=by simp[qba,List.range_succ]
theorem qh4(s:ByteArray)(n:Nat):(qba s n).length=64:=by
 induction n with
 | zero=>simp[qba]
 | succ n g=>rw[qfw];simp[qr4,g]
def qf6(ws:List Int):Prop:=∀x∈ws,0≤x∧x<4294967296
theorem qf6.at{ws:List Int}(h:qf6 ws)(i:Nat):0≤wd ws i∧wd ws i<4294967296:=by
 unfold wd;rw[List.getD_eq_getElem?_getD];cases g:ws[i]? with
 | none=>simp
 | some x=>exact h x (List.mem_of_getElem? g)
theorem qf6.set{ws:List Int}(h:qf6 ws)(i:Nat){x:Int}(l:0≤x∧x<4294967296):qf6 (ws.set i x):=by
 intro y g;rcases List.mem_or_eq_of_mem_set g with g | rfl
 ·exact h y g
 ·exact l
theorem qpl(s:ByteArray)(n:Nat):qf6 (qba s n):=by
 induction n with
 | zero=>intro x g;simp[qba] at g;omega
 | succ n i=>rw[qfw];exact i.set _ (qb6 ..)
def qkm:List Int:=[1116352408,1899447441,3049323471,3921009573,961987163,1508970993,2453635748,2870763221,3624381080,310598401,607225278,1426881987,1925078388,2162078206,2614888103,3248222580,3835390401,4022224774,264347078,604807628,770255983,1249150122,1555081692,1996064986,2554220882,2821834349,2952996808,3210313671,3336571891,3584528711,113926993,338241895,666307205,773529912,1294757372,1396182291,1695183700,1986661051,2177026350,2456956037,2730485921,2820302411,3259730800,3345764771,3516065817,3600352804,4094571909,275423344,430227734,506948616,659060556,883997877,958139571,1322822218,1537002063,1747873779,1955562222,2024104815,2227730452,2361852424,2428436474,2756734187,3204031479,3329325298]
def qjw:List Int:=[1779033703,3144134277,1013904242,2773480762,1359893119,2600822924,528734635,1541459225]
structure Tabs(w:World):Prop where
 table:∀i,i<64→w.cell? ⟨3,i,none⟩=some (.int .u32 (qkm.getD i 0))
 start:∀i,i<8→w.cell? ⟨1,i,none⟩=some (.int .u32 (qjw.getD i 0))
theorem Tabs.upd{S:Nat→Prop}{w w':World}(h:Tabs w)(u:Upd S w w')(l:¬S 3)(m:¬S 1):Tabs w':=⟨fun i g=>u.cell (h.table i g) l,fun i g=>u.cell (h.start i g) m⟩
theorem Tabs.lt{w:World}(h:Tabs w):3<w.heap.size∧1<w.heap.size:=⟨World.block_lt_of_cell? w _ (h.table 0 (by decide)),World.block_lt_of_cell? w _ (h.start 0 (by decide))⟩
theorem Tabs.new{w w':World}(h:Tabs w)(u:qu w w'):Tabs w':=h.upd u (fun h=>h) (fun h=>h)
theorem qy8:qf6 qkm:=by unfold qf6 qkm;decide
def q0g(x:Int):Int:=bits .xor .u32 (qca x [7,18]) (x / 8)
def sig1(y:Int):Int:=bits .xor .u32 (qca y [17,19]) (y / 1024)
def qsu(ws:List Int)(j:Nat):List Int:=ws.set (j+16) ((wd ws j+q0g (wd ws (j+1))+wd ws (j+9)+sig1 (wd ws (j+14)))%4294967296)
def qaz(s:ByteArray)(n:Nat):List Int:=(List.range n).foldl qsu (qba s 64)
theorem qg4(s:ByteArray):qaz s 0=qba s 64:=by unfold qaz;simp only[List.range_zero,List.foldl_nil]
theorem qg3(s:ByteArray)(n:Nat):qaz s (n+1)=qsu (qaz s n) n:=by simp[qaz,List.range_succ]
theorem qd6(s:ByteArray)(n:Nat):(qaz s n).length=64:=by
 induction n with
 | zero=>rw[qg4];exact qh4 s 64
 | succ n g=>rw[qg3];simp[qsu,g]
theorem qib(s:ByteArray)(n:Nat):qf6 (qaz s n):=by
 induction n with
 | zero=>rw[qg4];exact qpl s 64
 | succ n g=>rw[qg3];exact g.set _ (by omega)
def chI(e f g:Int):Int:=bits .xor .u32 (bits .and .u32 e f) (bits .and .u32 (bits .xor .u32 4294967295 e) g)
def q2i(a b c:Int):Int:=bits .xor .u32 (bits .xor .u32 (bits .and .u32 a b) (bits .and .u32 a c)) (bits .and .u32 b c)
def q7d(e f g h k w:Int):Int:=(h+qca e [6,11,25]+chI e f g+k+w)%4294967296
def zcu(a b c:Int):Int:=(qca a [2,13,22]+q2i a b c)%4294967296
def qmy(ws:List Int):List Int→Nat→List Int
 | [a,b,c,d,e,f,g,h],k=>[(q7d e f g h (qkm.getD k 0) (wd ws k)+zcu a b c)%4294967296,a,b,c,(d+q7d e f g h (qkm.getD k 0) (wd ws k))%4294967296,e,f,g]
 | v,_=>v
def qfl(ws v:List Int)(n:Nat):List Int:=(List.range n).foldl (qmy ws) v
theorem qmx(ws v:List Int):qfl ws v 0=v:=by unfold qfl;simp only[List.range_zero,List.foldl_nil]
theorem qmw(ws v:List Int)(n:Nat):qfl ws v (n+1)=qmy ws (qfl ws v n) n:=by simp[qfl,List.range_succ]
theorem qcc{l:List Int}(h:l.length=8):∃a b c d e f g i,l=[a,b,c,d,e,f,g,i]:=by
 match l,h with
 | [a,b,c,d,e,f,g,i],_=>exact⟨a,b,c,d,e,f,g,i,rfl⟩
theorem q7k(ws:List Int)(v:List Int)(k:Nat)(h:v.length=8∧qf6 v):(qmy ws v k).length=8∧qf6 (qmy ws v k):=by
 obtain⟨o,l⟩:=h;obtain⟨a,b,c,d,e,f,g,i,rfl⟩:=qcc o;refine⟨rfl,?_⟩;intro x m;simp only[qmy,List.mem_cons,List.not_mem_nil,or_false] at m;rcases m with rfl | rfl | rfl | rfl | rfl | rfl | rfl | rfl
 ·omega
 ·exact l _ (by simp)
 ·exact l _ (by simp)
 ·exact l _ (by simp)
 ·omega
 ·exact l _ (by simp)
 ·exact l _ (by simp)
 ·exact l _ (by simp)
theorem qn0(ws v:List Int)(n:Nat)(h:v.length=8∧qf6 v):(qfl ws v n).length=8∧qf6 (qfl ws v n):=by
 induction n with
 | zero=>rw[qmx];exact h
 | succ n g=>rw[qmw];exact q7k _ _ _ g
def qqx(v g:List Int)(i:Nat):List Int:=g.set i ((wd g i+wd v i)%4294967296)
def qck(v g:List Int)(n:Nat):List Int:=(List.range n).foldl (qqx v) g
theorem qji(v g:List Int):qck v g 0=g:=by unfold qck;simp only[List.range_zero,List.foldl_nil]
theorem qjh(v g:List Int)(n:Nat):qck v g (n+1)=qqx v (qck v g n) n:=by simp[qck,List.range_succ]
theorem qhf(v g:List Int)(n:Nat)(h:g.length=8∧qf6 g):(qck v g n).length=8∧qf6 (qck v g n):=by
 induction n with
 | zero=>rw[qji];exact h
 | succ n i=>rw[qjh];exact⟨by simp[qqx,i.1],i.2.set _ (by omega)⟩
def zee(xs:List Value)(l:Array Value)(i:Nat)(v:Value)(w:World):Prop:=if i=3 then ∃g T,v = .slice (some ⟨g,0,none⟩) 3 3∧w.heap[g]? = some (.cells l T (0,0)) else v=xs.getD i undef
theorem zbh{xs:List Value}{m:Array Value}(i:Nat)(v:Value){w w':World}(n:qu w w')(h:zee xs m i v w):zee xs m i v w':=by
 unfold zee at h ⊢;split
 ·rename_i l;rw[if_pos l] at h;obtain⟨g,T,e,o⟩:=h;exact⟨g,T,e,n.old o (fun h=>h)⟩
 ·rename_i l;rw[if_neg l] at h;exact h
theorem qbd.of{k:IntKind}{w:World}{b:Nat}{ws:List Int}{T:TypeId}{C:Array Value}(h:w.heap[b]? = some (.cells C T (0,0)))(e:C=(ws.map (Value.int k)).toArray):qbd k w b ws:=⟨T,by rw[h,e]⟩
theorem Tryz.infoW64:(Tryz.prog.info? 220).map (·.size)=some 64:=by kernel_rfl
def zfk(x:Value):Sem Value:=Instr.loadAt 220 x
theorem qzc(x:Value):Instr.loadAt 220 x=zfk x:=rfl
theorem zg2(b o:Nat)(w:World):(zfk (.pointer (some ⟨b,o,none⟩))).run Tryz.prog w=match zm w b o 64 with | some A=> .ok (.agg A) w | none=>qek Tryz.prog 220 w b o :=
 qae 220 64 _ Tryz.underlying220 rfl Tryz.infoW64 b o w
theorem qbd.row{k:IntKind}{w:World}{b:Nat}{ws:List Int}(h:qbd k w b ws){n:Nat}(g:ws.length=n):zm w b 0 n=some (ws.map (Value.int k)).toArray:=by
 obtain⟨T,h⟩:=h;exact qad h n (by simp[g])
attribute [local go_sem ↓ high] qzc
attribute [local go_sem] zg2
attribute [local go_sem ↓] Go.wp_at_zero Go.wp_at_succ
theorem qke{P:Program}{l:Func}{p u:Tmp}{i:TypeId}(h:l.results=#[.cell p i,.tmp u])(tmps:Array Value)(w:World)(g:Nat)(t:TypeId)(cs:Array Value)(fr:Nat × Nat)(d:TypeDesc)
  (q:tmps.getD p undef = .pointer (some ⟨g,0,none⟩)) (m:w.heap[g]? = some (.cells cs t fr))
  (v:P.underlying i=some d) (hd:(match d with | .struct _ | .array _ _=>true | _=>false)=true) (o:(P.info? i).map (·.size)=some cs.size) :
  (results l tmps).run P w = .ok (.tuple #[.agg cs,tmps.getD u undef]) w:=by
 rw[results_cell_tmp h,q]
 simp[asAddr,run_loadVar_row w g t i cs fr d m v hd o,Result.andThen]
theorem Tryz.infoW8:(Tryz.prog.info? 184).map (·.size)=some 8:=by kernel_rfl
def qm9(h:List Int)(s:ByteArray):List Int:=qck (qfl (qaz s 48) h 64) h 8
theorem qv3(h:List Int)(s:ByteArray)(g:h.length=8∧qf6 h):(qm9 h s).length=8∧qf6 (qm9 h s):=qhf _ _ _ g
set_option maxRecDepth 100000 in
set_option maxHeartbeats 4000000 in
theorem qvx(h:List Int)(s:ByteArray)(w:World)(hh:h.length=8)(hu:qf6 h)(hs:s.size=64)(f8:Tabs w) :
  Calls Tryz.prog 132 #[.agg (h.map (Value.int .u32)).toArray,.string s] w fun e w'=>e = .returned (.tuple #[.agg ((qm9 h s).map (Value.int .u32)).toArray,.bool true])∧qu w w':=by
 have hw:=f8.lt
 obtain⟨H,I,F,J,K,L,M,N,rfl⟩:∃a b c d e f g i,h=[a,b,c,d,e,f,g,i]:=by
  match h,hh with
  | [a,b,c,d,e,f,g,i],_=>exact⟨a,b,c,d,e,f,g,i,rfl⟩
 simp only[List.map_cons,List.map_nil]
 go_enter Tryz.func132,Tryz.ntmps132
 go_upto_region 4 with fail
 obtain⟨wA,a8⟩:∃wA:World,wA=((w.alloc (.cells #[.int .u32 H,.int .u32 I,.int .u32 F,.int .u32 J,.int .u32 K,.int .u32 L,.int .u32 M,.int .u32 N] 184)).alloc (.cells #[.int .u32 0,.int .u32 0,.int .u32 0,.int .u32 0,.int .u32 0,.int .u32 0,.int .u32 0,.int .u32 0] 184)).alloc (.cells #[.int .u32 0,.int .u32 0,.int .u32 0,.int .u32 0,.int .u32 0,.int .u32 0,.int .u32 0,.int .u32 0,.int .u32 0,.int .u32 0,.int .u32 0,.int .u32 0,.int .u32 0,.int .u32 0,.int .u32 0,.int .u32 0,.int .u32 0,.int .u32 0,.int .u32 0,.int .u32 0,.int .u32 0,.int .u32 0,.int .u32 0,.int .u32 0,.int .u32 0,.int .u32 0,.int .u32 0,.int .u32 0,.int .u32 0,.int .u32 0,.int .u32 0,.int .u32 0,.int .u32 0,.int .u32 0,.int .u32 0,.int .u32 0,.int .u32 0,.int .u32 0,.int .u32 0,.int .u32 0,.int .u32 0,.int .u32 0,.int .u32 0,.int .u32 0,.int .u32 0,.int .u32 0,.int .u32 0,.int .u32 0,.int .u32 0,.int .u32 0,.int .u32 0,.int .u32 0,.int .u32 0,.int .u32 0,.int .u32 0,.int .u32 0,.int .u32 0,.int .u32 0,.int .u32 0,.int .u32 0,.int .u32 0,.int .u32 0,.int .u32 0,.int .u32 0] 220):=⟨_,rfl⟩
 have sA:wA.heap.size=w.heap.size+3:=by rw[a8];simp
 have nA:qu w wA:=by rw[a8];exact(((Upd.refl _ _).alloc _).alloc _).alloc _
 have vA:qbd .u32 wA w.heap.size [H,I,F,J,K,L,M,N]:=by rw[a8];exact⟨_,zj (zj (qi _ _) _) _⟩
 have vB:qbd .u32 wA (w.heap.size+1) [0,0,0,0,0,0,0,0]:=by
  rw[a8];have:=qi (w.alloc (.cells #[.int .u32 H,.int .u32 I,.int .u32 F,.int .u32 J,.int .u32 K,.int .u32 L,.int .u32 M,.int .u32 N] 184)) (.cells #[.int .u32 0,.int .u32 0,.int .u32 0,.int .u32 0,.int .u32 0,.int .u32 0,.int .u32 0,.int .u32 0] 184);rw[World.size_alloc] at this;exact⟨_,zj this _⟩
 have vW:qbd .u32 wA (w.heap.size+1+1) (List.replicate 64 0):=by
  rw[a8];have:=qi ((w.alloc (.cells #[.int .u32 H,.int .u32 I,.int .u32 F,.int .u32 J,.int .u32 K,.int .u32 L,.int .u32 M,.int .u32 N] 184)).alloc (.cells #[.int .u32 0,.int .u32 0,.int .u32 0,.int .u32 0,.int .u32 0,.int .u32 0,.int .u32 0,.int .u32 0] 184)) (.cells #[.int .u32 0,.int .u32 0,.int .u32 0,.int .u32 0,.int .u32 0,.int .u32 0,.int .u32 0,.int .u32 0,.int .u32 0,.int .u32 0,.int .u32 0,.int .u32 0,.int .u32 0,.int .u32 0,.int .u32 0,.int .u32 0,.int .u32 0,.int .u32 0,.int .u32 0,.int .u32 0,.int .u32 0,.int .u32 0,.int .u32 0,.int .u32 0,.int .u32 0,.int .u32 0,.int .u32 0,.int .u32 0,.int .u32 0,.int .u32 0,.int .u32 0,.int .u32 0,.int .u32 0,.int .u32 0,.int .u32 0,.int .u32 0,.int .u32 0,.int .u32 0,.int .u32 0,.int .u32 0,.int .u32 0,.int .u32 0,.int .u32 0,.int .u32 0,.int .u32 0,.int .u32 0,.int .u32 0,.int .u32 0,.int .u32 0,.int .u32 0,.int .u32 0,.int .u32 0,.int .u32 0,.int .u32 0,.int .u32 0,.int .u32 0,.int .u32 0,.int .u32 0,.int .u32 0,.int .u32 0,.int .u32 0,.int .u32 0,.int .u32 0,.int .u32 0] 220);rw[World.size_alloc,World.size_alloc] at this;exact⟨_,this⟩
 rw[←a8]
 clear a8
 have TA:=f8.new nA
 generalize f2:w.heap.size=A at *
 have c6:=qb f2
 clear f2
 have n4:A+3≤wA.heap.size:=by omega
 clear sA
 obtain⟨wo,rfl⟩:∃wo:World,wo=wA:=⟨_,rfl⟩
 go_wp2_with fail
 go_loopw [7,30] (fun _ iv wr=>∃k:Nat,iv = .int .i64 (k:Int)∧k≤64∧qbd .u32 wr (A+1+1) (qba s k)∧Upd (fun k=>k=A+1+1) wo wr) (fun _ iv _=>64-(intOf iv).toNat)
 case atStart=>exact⟨0,rfl,by omega,vW,Upd.refl _ _⟩
 case round =>
  obtain⟨k,rfl,hk,hW,P⟩:=hrel;by_cases n3:k<64
  ·have c2:=qh4 s k;have c0:=hW.cell (i:=k / 4) (by omega);have z0:=hW.free (k / 4);have O:=hW.set (k / 4) (bits .or .u32 (wd (qba s k) (k / 4)*256%4294967296) (bt s k));obtain⟨j8,j9⟩:=(qpl s k).at (k / 4);rw[show (qba s k).set (k / 4) (bits .or .u32 (wd (qba s k) (k / 4)*256%4294967296) (bt s k))=qba s (k+1) from(qfw s k).symm] at O;change wr.cell? _=some (.int .u32 (wd (qba s k) (k / 4))) at c0;have k3:∀W:World,(Instr.index 9 (.string s) (.int .i64 (k:Int))).run Tryz.prog W = .ok (.int .u8 (bt s k)) W:=fun W=>qn3 _ s _ _ k Tryz.underlying9 rfl (by omega) W
   obtain⟨g5,g6⟩:=qx7 s k;have e6:(k:Int)<64:=by omega
   have d4:((k:Int) / 4).toNat=k / 4:=by omega
   have e7:(0:Int)≤(k:Int) / 4:=by omega
   have e8:(k:Int) / 4<64:=by omega
   have e9:IntKind.i64.wrap ((k:Int) / 4)=(k:Int) / 4:=IntWalk.i64_in _ (by omega);have X:=qb O;clear O c2 hW;generalize wd (qba s k) (k / 4)=x at c0 j8 j9 X;generalize bt s k=y at k3 g5 g6 X;have b8:IntKind.u32.wrap (x*256)=x*256%4294967296:=by rw[IntKind.wrap_u32]
   have c7:IntKind.u32.wrap y=y:=IntWalk.u32_in _ (by omega);go_wp2_with fail;go_region_law (fail)
   all_goals
    have us:=P.set1 (k / 4) (.int .u32 (bits .or .u32 (x*256%4294967296) y));have Z:=qa X;generalize wr.setCell ⟨A+1+1,k / 4,none⟩ (.int .u32 (bits .or .u32 (x*256%4294967296) y))=wS at *
    go_wp2;go_roundw
    case rel=>exact⟨k+1,by go_num,by omega,(Z:qbd .u32 wS _ _),us.drew⟩
    case measure=>simp[intOf];omega
  ·obtain rfl:k=64:=by omega
   rw[show ((64:Nat):Int)=64 from rfl];have i7:=vA.upd P (by omega);have i9:=vB.upd P (by omega);have l9:=P.size;have u0:=P;clear vA vB vW P;obtain⟨w2,rfl⟩:∃w2:World,w2=wr:=⟨_,rfl⟩;go_wp2_with fail
   go_loopw [8,9,10,11,12] (fun iv _ _ _ _ wr=>∃j:Nat,iv = .int .i64 ((j:Int)+16)∧j≤48∧qbd .u32 wr (A+1+1) (qaz s j)∧Upd (fun k=>k=A+1+1) w2 wr) (fun iv _ _ _ _ _=>64-(intOf iv).toNat)
   case atStart=>exact⟨0,rfl,by omega,by rw[qg4];exact hW,Upd.refl _ _⟩
   case round =>
    clear hW;obtain⟨j,rfl,hj,hW,P⟩:=hrel;by_cases l7:j<48
    ·have c2:=qd6 s j;have hr:=qib s j;have c1:wr.cell? ⟨A+1+1,j+1,none⟩=some (.int .u32 (wd (qaz s j) (j+1))):=hW.cell (by omega);have e5:wr.cell? ⟨A+1+1,j+14,none⟩=some (.int .u32 (wd (qaz s j) (j+14))):=hW.cell (by omega);obtain⟨r1,i5⟩:=hr.at (j+1);obtain⟨i6,d2⟩:=hr.at (j+14);obtain⟨r0,k7⟩:=hr.at j;obtain⟨r9,k8⟩:=hr.at (j+9);have o:=qg3 s j;unfold qsu q0g sig1 at o;have HN:=qb o;have HW:=qb hW;have e6:(j:Int)<48:=by omega
     have d4:IntKind.i64.wrap ((j:Int)+16-15)=(j:Int)+1:=by rw[IntWalk.i64_in _ (by omega)];omega
     have e7:IntKind.i64.wrap ((j:Int)+16-2)=(j:Int)+14:=by rw[IntWalk.i64_in _ (by omega)];omega
     have e8:((j:Int)+1).toNat=j+1:=by omega
     have e9:((j:Int)+14).toNat=j+14:=by omega
     clear hW hr c2 o;generalize hx:wd (qaz s j) (j+1)=x at c1 r1 i5 HN;generalize hy:wd (qaz s j) (j+14)=y at e5 i6 d2 HN;clear hx hy;go_wp2_with fail;go_quiet (fail);go_wp2_with fail;refine(qva x 7 18 _ _ _ (by decide) (by decide) r1 i5 (by exact qi _ _)).mono ?_;rintro e w5 ⟨rfl,q5⟩;have n5:qu wr w5:=(((Upd.refl _ wr).drewN _).alloc _).trans (q5.upd _);clear q5;go_wp2_with fail;refine(qva y 17 19 _ _ _ (by decide) (by decide) i6 d2 (by exact qi _ _)).mono ?_;rintro e w6 ⟨rfl,q6⟩;have n6:qu wr w6:=n5.trans (((Upd.refl _ w5).alloc _).trans (q6.upd _));clear n5 q6 c1 e5;have a9:=(qa HW).upd n6 (fun h=>h);have c0:w6.cell? ⟨A+1+1,j,none⟩=some (.int .u32 (wd (qaz s j) j)):=a9.cell (by rw[qd6];omega);have c9:w6.cell? ⟨A+1+1,j+9,none⟩=some (.int .u32 (wd (qaz s j) (j+9))):=a9.cell (by rw[qd6];omega);obtain⟨n7,m5⟩:∃v,w6.cell? ⟨A+1+1,j+16,none⟩=some v:=⟨_,a9.cell (by rw[qd6];omega)⟩;have n8:=a9.free (j+16);go_upto_region 15 with fail;obtain⟨p0,p1⟩:=qb6 .xor (qca x [7,18]) (x / 8);obtain⟨p2,p3⟩:=qb6 .xor (qca y [17,19]) (y / 1024);generalize bits .xor .u32 (qca x [7,18]) (x / 8)=p at HN p0 p1 ⊢;generalize bits .xor .u32 (qca y [17,19]) (y / 1024)=q at HN p2 p3 ⊢;generalize wd (qaz s j) j=a at c0 r0 k7 HN;generalize wd (qaz s j) (j+9)=b at c9 r9 k8 HN;have O:=a9.set (j+16) ((a+p+b+q)%4294967296);rw[←qa HN] at O;have X:=qb O;have u6:=P.then n6 (fun _ _ h=>h.elim);clear O a9 n6 HW HN d4 e7 e8 e9;have b8:IntKind.i64.wrap (j:Int)=(j:Int):=IntWalk.i64_in _ (by omega);have c7:IntKind.i64.wrap ((j:Int)+16-7)=(j:Int)+9:=by rw[IntWalk.i64_in _ (by omega)];omega
     have m7:(j:Int)<64:=by omega
     have m8:(j:Int)+9<64:=by omega
     have m9:(j:Int)+16<64:=by omega
     have n0:(0:Int)≤(j:Int)+9:=by omega
     have n1:(0:Int)≤(j:Int)+16:=by omega
     have f0:((j:Int)+9).toNat=j+9:=by omega
     have f1:((j:Int)+16).toNat=j+16:=by omega
     have d5:IntKind.u32.wrap (a+p)=(a+p)%4294967296:=by rw[IntKind.wrap_u32]
     have d6:IntKind.u32.wrap ((a+p)%4294967296+b)=(a+p+b)%4294967296:=by rw[IntKind.wrap_u32];omega
     have j7:IntKind.u32.wrap ((a+p+b)%4294967296+q)=(a+p+b+q)%4294967296:=by rw[IntKind.wrap_u32];omega
     go_wp2_with fail;go_region_law (fail)
     all_goals
      have us:=u6.set1 (j+16) (.int .u32 ((a+p+b+q)%4294967296));have Z:=qa X;generalize w6.setCell ⟨A+1+1,j+16,none⟩ (.int .u32 ((a+p+b+q)%4294967296))=wS at *
      clear d5 d6 j7 b8 c7;go_wp2;go_roundw
      case rel=>exact⟨j+1,by first | (rw[show ((j+1:Nat):Int)+16=(j:Int)+16+1 by omega];done) | (simp;omega),by omega,(Z:qbd .u32 wS _ _),us.drew⟩
      case measure=>simp[intOf];omega
    ·obtain rfl:j=48:=by omega
     rw[show ((48:Nat):Int)+16=64 from rfl];have V:=i7.upd P (by omega);have j0:=i9.upd P (by omega);have u3:=u0.trans P;have m2:=P.size;obtain⟨w3,rfl⟩:∃w3:World,w3=wr:=⟨_,rfl⟩;have a0:=V.cell (i:=0) (by simp);have a1:=V.cell (i:=1) (by simp);have a2:=V.cell (i:=2) (by simp);have a3:=V.cell (i:=3) (by simp);have a4:=V.cell (i:=4) (by simp);have a5:=V.cell (i:=5) (by simp);have a6:=V.cell (i:=6) (by simp);have a7:=V.cell (i:=7) (by simp);simp at a0 a1 a2 a3 a4 a5 a6 a7;have e3:=qb hW;clear i7 i9 u0 P hW;have g7:=(qa e3).row (qd6 s 48);go_upto_region 17 with fail;have vV:=qbd.of (k:= .u32) (ws:=[H,I,F,J,K,L,M,N]) (qi w3 (.cells #[.int .u32 H,.int .u32 I,.int .u32 F,.int .u32 J,.int .u32 K,.int .u32 L,.int .u32 M,.int .u32 N] 184)) rfl;have nV:qu w3 (w3.alloc (.cells #[.int .u32 H,.int .u32 I,.int .u32 F,.int .u32 J,.int .u32 K,.int .u32 L,.int .u32 M,.int .u32 N] 184)):=(Upd.refl _ _).alloc _;generalize w3.alloc (.cells #[.int .u32 H,.int .u32 I,.int .u32 F,.int .u32 J,.int .u32 K,.int .u32 L,.int .u32 M,.int .u32 N] 184)=w4 at vV nV ⊢;have c4:=qa9 g7 nV (fun h=>h);have k5:=qd6 s 48;have i0:=qib s 48;have m4:=vV.lt;have m0:=nV.size;have TT:=(TA.upd u3 (by omega) (by omega)).new nV;clear g7 e3 a0 a1 a2 a3 a4 a5 a6 a7;generalize h9:qaz s 48=ws at c4 k5 i0;have e4:=qb h9;clear h9;generalize f3:(ws.map (Value.int .u32)).toArray=Cw at c4;have c8:∀(k:Nat) (W:World),k<64→(Instr.index 220 (.agg Cw) (.int .i64 (k:Int))).run Tryz.prog W = .ok (.int .u32 (wd ws k)) W:=by
      intro k W hk;have e1:Cw[k]? = some (.int .u32 (wd ws k)):=by
       rw[←f3,List.getElem?_toArray,List.getElem?_map,List.getElem?_eq_getElem (by omega),wd,List.getD_eq_getElem?_getD,List.getElem?_eq_getElem (by omega)];rfl
      have F:0≤(k:Int)∧(k:Int)<((64:Nat):Int):=by omega
      simp[Instr.index,run_underlying Tryz.underlying220,asIntOf,F,e1,go_sem];intro l6;omega
     have HX:=qb c8;clear c8 f3;obtain⟨w5,rfl⟩:∃w5:World,w5=w4:=⟨_,rfl⟩;go_wp2_with fail
     go_loopw [14,15,16,17,18,19,20,21,22,23,24,88] (fun _ _ _ _ _ _ _ _ _ _ _ iv wr=>∃k:Nat,iv = .int .i64 (k:Int)∧k≤64∧qbd .u32 wr w3.heap.size (qfl ws [H,I,F,J,K,L,M,N] k)∧Upd (fun k=>k=w3.heap.size) w5 wr) (fun _ _ _ _ _ _ _ _ _ _ _ iv _=>64-(intOf iv).toNat)
     case atStart=>exact⟨0,rfl,by omega,by rw[qmx];exact vV,Upd.refl _ _⟩
     case round =>
      obtain⟨k,rfl,hk,hV,P⟩:=hrel;by_cases d1:k<64
      ·have hok:=qn0 ws [H,I,F,J,K,L,M,N] k ⟨rfl,hu⟩;have o:=qmw ws [H,I,F,J,K,L,M,N] k;generalize hv:qfl ws [H,I,F,J,K,L,M,N] k=v at hV hok o;clear hv;obtain⟨h8,T⟩:=hok;obtain⟨a,b,c,d,e,f,g,l,rfl⟩:=qcc h8;clear h8;have HN:=qb o;have v0:=hV.cell (i:=0) (by simp);have v1:=hV.cell (i:=1) (by simp);have v2:=hV.cell (i:=2) (by simp);have v3:=hV.cell (i:=3) (by simp);have v4:=hV.cell (i:=4) (by simp);have v5:=hV.cell (i:=5) (by simp);have v6:=hV.cell (i:=6) (by simp);have v7:=hV.cell (i:=7) (by simp);simp at v0 v1 v2 v3 v4 v5 v6 v7;have HV:=qb hV;clear o hV;have ix:=qa HX k wr d1;have tk:=(TT.upd P (by omega) (by omega)).table k d1;obtain⟨t0,k9⟩:=qy8.at k;obtain⟨x0,l5⟩:=i0.at k;change wr.cell? _=some (.int .u32 (wd qkm k)) at tk;generalize f4:wd qkm k=kk at tk t0 k9;generalize g4:wd ws k=wk at ix x0 l5;have b0:=T a (by simp);have b1:=T b (by simp);have b2:=T c (by simp);have b3:=T d (by simp);have b4:=T e (by simp);have b5:=T f (by simp);have b6:=T g (by simp);have b7:=T l (by simp);obtain⟨j5,j6⟩:=b4;have BB:=qb (And.intro b0 (And.intro b1 (And.intro b2 (And.intro b3 (And.intro b5 (And.intro b6 b7))))));clear b0 b1 b2 b3 b5 b6 b7;have n2:(k:Int)<64:=by omega
       clear T;obtain⟨wq,rfl⟩:∃wq:World,wq=wr:=⟨_,rfl⟩;go_wp2_with fail;go_quiet (fail);clear v0 v1 v2 v3 v4 v5 v6 ix;obtain⟨T0,T1⟩:=ql8 e [6,11,25];obtain⟨p0,p1⟩:=qb6 .xor (bits .and .u32 e f) (bits .and .u32 (bits .xor .u32 4294967295 e) g);generalize d7:qca e [6,11,25]=te at T0 T1;generalize f7:bits .xor .u32 (bits .and .u32 e f) (bits .and .u32 (bits .xor .u32 4294967295 e) g)=p at p0 p1;have c3:q7d e f g l (qkm.getD k 0) (wd ws k)=(l+te+p+kk+wk)%4294967296:=by
        unfold q7d chI;rw[d7,f7,g4,show qkm.getD k 0=kk from f4]
       clear f4 g4;obtain⟨E,f6⟩:∃E:Int,E=(l+te+p+kk+wk)%4294967296:=⟨_,rfl⟩;rw[←f6] at c3;have d8:=qb c3;clear c3;have b8:IntKind.u32.wrap (l+te)=(l+te)%4294967296:=by rw[IntKind.wrap_u32]
       have c7:IntKind.u32.wrap ((l+te)%4294967296+p)=(l+te+p)%4294967296:=by rw[IntKind.wrap_u32];omega
       have f0:IntKind.u32.wrap ((l+te+p)%4294967296+kk)=(l+te+p+kk)%4294967296:=by rw[IntKind.wrap_u32];omega
       have f1:IntKind.u32.wrap ((l+te+p+kk)%4294967296+wk)=E:=by rw[IntKind.wrap_u32];omega
       clear f6;have d5:(k:Int).toNat=k:=by omega
       have d6:IntKind.i64.wrap (k:Int)=(k:Int):=IntWalk.i64_in _ (by omega);go_wp2_with fail;refine zhx (by kernel_rfl) [[],[(0,106)],[],[],[(2,108),(3,109)],[(1,107),(4,110)],[],[],[(6,112),(7,113)],[],[(9,115)],[],[(10,116),(11,117)],[(8,114),(12,118)],[(5,111),(13,119)],[],[(15,121)],[(16,122)],[(14,120),(17,123)],[],[(18,124),(19,125)],[(20,126)]] 169 (by rfl) (by kernel_rfl)
        [(0,106),(1,107),(2,108),(3,109),(4,110),(5,111),(6,112),(7,113),(8,114),(9,115),(10,116),(11,117),(12,118),(13,119),(14,120),(15,121),(16,122),(17,123),(18,124),(19,125),(20,126),(21,23)] (by kernel_rfl) (fun w'=>qu wq w') qu
        (zee [.pointer (some ⟨w3.heap.size,7,none⟩),.int .u32 (l),.int .u32 (e),undef,.int .u32 (te),.int .u32 ((l+te)%4294967296),.int .u32 (e),.int .u32 (f),.int .u32 (bits .and .u32 e f),.int .u32 (e),.int .u32 (bits .xor .u32 4294967295 e),.int .u32 (g),.int .u32 (bits .and .u32 (bits .xor .u32 4294967295 e) g),.int .u32 (p),.int .u32 ((l+te+p)%4294967296),.int .i64 (k:Int),.pointer (some ⟨3,k,none⟩),.int .u32 (kk),.int .u32 ((l+te+p+kk)%4294967296),.int .u32 (wk),.int .u32 E,.int .u32 E] #[.int .u64 6,.int .u64 11,.int .u64 25]) (((Upd.refl _ wq).drewN _).drew) (fun w=>Upd.refl _ w) (fun i v w w' _ _ n h=>zbh i v n h) ?_ ?_
       ·have q7:∀ {w':World},qu wq w'→w'.cell? ⟨w3.heap.size,7,none⟩=some (.int .u32 l):=fun n=>n.cell v7 (fun h=>h)
        have qt:∀ {w':World},qu wq w'→w'.cell? ⟨3,k,none⟩=some (.int .u32 kk):=fun n=>n.cell tk (fun h=>h)
        refine qaa.plain rfl ?_ (qaa.plain rfl ?_ (qaa.plain rfl ?_ (qaa.plain rfl ?_ (qaa.plain rfl ?_ (qaa.plain rfl ?_ (qaa.plain rfl ?_ (qaa.plain rfl ?_ (qaa.plain rfl ?_ (qaa.plain rfl ?_ (qaa.plain rfl ?_ (qaa.plain rfl ?_ (qaa.plain rfl ?_ (qaa.plain rfl ?_ (qaa.plain rfl ?_ (qaa.plain rfl ?_ (qaa.plain rfl ?_ (qaa.plain rfl ?_ (qaa.plain rfl ?_ (qaa.plain rfl ?_ (qaa.plain rfl ?_ (qaa.plain rfl ?_ (qaa.nil))))))))))))))))))))))
        ·intro qk w' t _;unfold zi;simp only[putL];go_simp
         first | exact⟨Upd.refl _ _,rfl⟩ | exact⟨Upd.refl _ _,t,rfl⟩ | skip
        ·rintro qk w' t ⟨C,-⟩;replace C:qk 0 = .pointer (some ⟨w3.heap.size,7,none⟩):=C;have q7:=q7 t;unfold zi;simp only[putL];go_simp
         first | exact⟨Upd.refl _ _,rfl⟩ | exact⟨Upd.refl _ _,t,rfl⟩ | skip
        ·intro qk w' t _;unfold zi;simp only[putL];go_simp
         first | exact⟨Upd.refl _ _,rfl⟩ | exact⟨Upd.refl _ _,t,rfl⟩ | skip
        ·intro qk w' t _;unfold zi;simp only[putL];go_simp
         first | exact⟨(Upd.refl _ _).alloc _,t.trans ((Upd.refl _ _).alloc _),_,_,rfl,qi _ _⟩ | skip
        ·rintro qk w' t ⟨C,R,-⟩;replace C:qk 2 = .int .u32 (e):=C;obtain⟨g3,T3,R,hb⟩:=R;unfold zi;simp only[putL];go_simp;refine(qp0 e 6 11 25 _ _ _ (by decide) (by decide) (by decide) j5 j6 hb).mono ?_;rintro e2 w2 ⟨rfl,q2⟩;exact⟨_,rfl,q2.upd _,t.trans (q2.upd _),by rw[d7];rfl⟩
        ·rintro qk w' t ⟨C,R,-⟩;replace C:qk 1 = .int .u32 (l):=C;replace R:qk 4 = .int .u32 (te):=R;unfold zi;simp only[putL];go_simp
         first | exact⟨Upd.refl _ _,rfl⟩ | exact⟨Upd.refl _ _,t,rfl⟩ | skip
        ·intro qk w' t _;unfold zi;simp only[putL];go_simp
         first | exact⟨Upd.refl _ _,rfl⟩ | exact⟨Upd.refl _ _,t,rfl⟩ | skip
        ·intro qk w' t _;unfold zi;simp only[putL];go_simp
         first | exact⟨Upd.refl _ _,rfl⟩ | exact⟨Upd.refl _ _,t,rfl⟩ | skip
        ·rintro qk w' t ⟨C,R,-⟩;replace C:qk 6 = .int .u32 (e):=C;replace R:qk 7 = .int .u32 (f):=R;unfold zi;simp only[putL];go_simp
         first | exact⟨Upd.refl _ _,rfl⟩ | exact⟨Upd.refl _ _,t,rfl⟩ | skip
        ·intro qk w' t _;unfold zi;simp only[putL];go_simp
         first | exact⟨Upd.refl _ _,rfl⟩ | exact⟨Upd.refl _ _,t,rfl⟩ | skip
        ·rintro qk w' t ⟨C,-⟩;replace C:qk 9 = .int .u32 (e):=C;unfold zi;simp only[putL];go_simp
         first | exact⟨Upd.refl _ _,rfl⟩ | exact⟨Upd.refl _ _,t,rfl⟩ | skip
        ·intro qk w' t _;unfold zi;simp only[putL];go_simp
         first | exact⟨Upd.refl _ _,rfl⟩ | exact⟨Upd.refl _ _,t,rfl⟩ | skip
        ·rintro qk w' t ⟨C,R,-⟩;replace C:qk 10 = .int .u32 (bits .xor .u32 4294967295 e):=C;replace R:qk 11 = .int .u32 (g):=R;unfold zi;simp only[putL];go_simp
         first | exact⟨Upd.refl _ _,rfl⟩ | exact⟨Upd.refl _ _,t,rfl⟩ | skip
        ·rintro qk w' t ⟨C,R,-⟩;replace C:qk 8 = .int .u32 (bits .and .u32 e f):=C;replace R:qk 12 = .int .u32 (bits .and .u32 (bits .xor .u32 4294967295 e) g):=R;unfold zi;simp only[putL];go_simp
         first | exact⟨Upd.refl _ _,rfl⟩ | exact⟨Upd.refl _ _,t,rfl⟩ | skip
        ·rintro qk w' t ⟨C,R,-⟩;replace C:qk 5 = .int .u32 ((l+te)%4294967296):=C;replace R:qk 13 = .int .u32 (p):=R;unfold zi;simp only[putL];go_simp
         first | exact⟨Upd.refl _ _,rfl⟩ | exact⟨Upd.refl _ _,t,rfl⟩ | skip
        ·intro qk w' t _;unfold zi;simp only[putL];go_simp
         first | exact⟨Upd.refl _ _,rfl⟩ | exact⟨Upd.refl _ _,t,rfl⟩ | skip
        ·rintro qk w' t ⟨C,-⟩;replace C:qk 15 = .int .i64 (k:Int):=C;unfold zi;simp only[putL];go_simp
         first | exact⟨Upd.refl _ _,rfl⟩ | exact⟨Upd.refl _ _,t,rfl⟩ | skip
        ·rintro qk w' t ⟨C,-⟩;replace C:qk 16 = .pointer (some ⟨3,k,none⟩):=C;have qt:=qt t;unfold zi;simp only[putL];go_simp
         first | exact⟨Upd.refl _ _,rfl⟩ | exact⟨Upd.refl _ _,t,rfl⟩ | skip
        ·rintro qk w' t ⟨C,R,-⟩;replace C:qk 14 = .int .u32 ((l+te+p)%4294967296):=C;replace R:qk 17 = .int .u32 (kk):=R;unfold zi;simp only[putL];go_simp
         first | exact⟨Upd.refl _ _,rfl⟩ | exact⟨Upd.refl _ _,t,rfl⟩ | skip
        ·intro qk w' t _;unfold zi;simp only[putL];go_simp
         first | exact⟨Upd.refl _ _,rfl⟩ | exact⟨Upd.refl _ _,t,rfl⟩ | skip
        ·rintro qk w' t ⟨C,R,-⟩;replace C:qk 18 = .int .u32 ((l+te+p+kk)%4294967296):=C;replace R:qk 19 = .int .u32 (wk):=R;unfold zi;simp only[putL];go_simp
         first | exact⟨Upd.refl _ _,rfl⟩ | exact⟨Upd.refl _ _,t,rfl⟩ | skip
        ·rintro qk w' t ⟨C,-⟩;replace C:qk 20 = .int .u32 E:=C;unfold zi;simp only[putL];go_simp
         first | exact⟨Upd.refl _ _,rfl⟩ | exact⟨Upd.refl _ _,t,rfl⟩ | skip
       ·intro qk w9 n9 g8;have Y:=g8 21 (by decide);replace Y:qk 21 = .int .u32 E:=Y;clear g8;simp only[putL,Y];go_simp;clear Y;have e0:=(qa HV).upd n9 (fun h=>h);have u9:=P.then n9 (fun _ _ h=>h.elim);have j2:=qb e0;obtain⟨⟨a0,d3⟩,-,-,⟨d0,m6⟩,-⟩:=qa BB;clear e0 HV v7 tk n9 b8 c7 f0 f1 d5 d6 BB d7 f7;obtain⟨wz,rfl⟩:∃wz:World,wz=w9:=⟨_,rfl⟩;go_wp2_with fail;refine(qp0 a 2 13 22 _ _ _ (by decide) (by decide) (by decide) a0 d3 (by exact qi _ _)).mono ?_;rintro e2 l4 ⟨rfl,i4⟩;have i3:qu wz l4:=(((Upd.refl _ wz)).alloc _).trans (i4.upd _);clear i4;have D:=(qa j2).upd i3 (fun h=>h);have l3:=u9.then i3 (fun _ _ h=>h.elim);generalize f9:qca a [2,13,22]=ta;have k0:∀m:Int,IntKind.u32.wrap (ta+m)=(ta+m)%4294967296:=fun m=>by rw[IntKind.wrap_u32]
        go_upto_region 23 with fail;generalize f5:bits .xor .u32 (bits .xor .u32 (bits .and .u32 a b) (bits .and .u32 a c)) (bits .and .u32 b c)=ma;have c5:zcu a b c=(ta+ma)%4294967296:=by unfold zcu q2i;rw[f9,f5]
        obtain⟨two,g2⟩:∃two:Int,two=(ta+ma)%4294967296:=⟨_,rfl⟩;rw[←g2] at c5 ⊢;have d9:=qb c5;clear c5 f9 f5 g2 k0;have k1:IntKind.u32.wrap (E+two)=(E+two)%4294967296:=by rw[IntKind.wrap_u32]
        have k2:IntKind.u32.wrap (d+E)=(d+E)%4294967296:=by rw[IntKind.wrap_u32]
        have z:=fun i=>D.free i
        have v0:=D.cell (i:=0) (by simp);have v1:=D.cell (i:=1) (by simp);have v2:=D.cell (i:=2) (by simp);have v3:=D.cell (i:=3) (by simp);have v4:=D.cell (i:=4) (by simp);have v5:=D.cell (i:=5) (by simp);have v6:=D.cell (i:=6) (by simp);have v7:=D.cell (i:=7) (by simp);simp at v0 v1 v2 v3 v4 v5 v6 v7;have j3:=qb D;clear D;go_wp2_with fail;have O:=((((((((qa j3).set 0 ((E+two)%4294967296)).set 1 a).set 2 b).set 3 c).set 4 ((d+E)%4294967296)).set 5 e).set 6 f).set 7 g;have us:=(((((((l3.set1 0 (.int .u32 ((E+two)%4294967296))).set1 1 (.int .u32 a)).set1 2 (.int .u32 b)).set1 3 (.int .u32 c)).set1 4 (.int .u32 ((d+E)%4294967296))).set1 5 (.int .u32 e)).set1 6 (.int .u32 f)).set1 7 (.int .u32 g);have k4:qfl ws [H,I,F,J,K,L,M,N] (k+1)=[(E+two)%4294967296,a,b,c,(d+E)%4294967296,e,f,g]:=by
         rw[qa HN];simp only[qmy];rw[qa d8,qa d9]
        go_roundw
        case rel=>exact⟨k+1,by go_num,by omega,by rw[k4];exact O,us⟩
        case measure=>simp[intOf];omega
      ·obtain rfl:k=64:=by omega
       rw[show ((64:Nat):Int)=64 from rfl];have m3:=P.size;have i8:=(V.upd nV (fun h=>h)).upd P (by omega);have j1:=(j0.upd nV (fun h=>h)).upd P (by omega);have nn:=((nA.then u3 (by intro q hq h;rw[qa c6] at hq;omega)).trans nV).then P (by intro q hq h;rw[qa c6] at hq;omega);have g9:=qn0 ws [H,I,F,J,K,L,M,N] 64 ⟨rfl,hu⟩;have HR:=qb (show qfl (qaz s 48) [H,I,F,J,K,L,M,N] 64=qfl ws [H,I,F,J,K,L,M,N] 64 by rw[qa e4]);generalize qfl ws [H,I,F,J,K,L,M,N] 64=v at hV g9 HR;clear P V j0 u3 nV c4 HX vV TT;obtain⟨h8,T⟩:=g9;obtain⟨w6,rfl⟩:∃w6:World,w6=wr:=⟨_,rfl⟩;go_wp2_with fail
       go_loopw [25,156] (fun _ iv wr=>∃i:Nat,iv = .int .i64 (i:Int)∧i≤8∧qbd .u32 wr A (qck v [H,I,F,J,K,L,M,N] i)∧Upd (fun k=>k=A) w6 wr) (fun _ iv _=>8-(intOf iv).toNat)
       case atStart=>exact⟨0,rfl,by omega,by rw[qji];exact i8,Upd.refl _ _⟩
       case round =>
        obtain⟨i,rfl,hi,hA,P⟩:=hrel;by_cases l8:i<8
        ·have hok:=qhf v [H,I,F,J,K,L,M,N] i ⟨rfl,hu⟩;have o:=qjh v [H,I,F,J,K,L,M,N] i;unfold qqx at o;have c0:=hA.cell (i:=i) (by omega);have z0:=hA.free i;have c1:=(hV.upd P (by omega)).cell (i:=i) (by omega);obtain⟨a0,d3⟩:=hok.2.at i;obtain⟨b0,j4⟩:=T.at i;have O:=hA.set i ((wd (qck v [H,I,F,J,K,L,M,N] i) i+wd v i)%4294967296);rw[←o] at O;have X:=qb O;clear O o hok hA;change wr.cell? _=some (.int .u32 (wd (qck v [H,I,F,J,K,L,M,N] i) i)) at c0;change wr.cell? _=some (.int .u32 (wd v i)) at c1;generalize wd (qck v [H,I,F,J,K,L,M,N] i) i=x at c0 a0 d3 X;generalize wd v i=y at c1 b0 j4 X;have b8:IntKind.u32.wrap (x+y)=(x+y)%4294967296:=by rw[IntKind.wrap_u32]
         have e6:(i:Int)<8:=by omega
         have d4:(i:Int).toNat=i:=by omega
         go_wp2_with fail;go_region_law (fail)
         all_goals
          have us:=P.set1 i (.int .u32 ((x+y)%4294967296));have Z:=qa X;generalize wr.setCell ⟨A,i,none⟩ (.int .u32 ((x+y)%4294967296))=wS at *
          go_wp2;go_roundw
          case rel=>exact⟨i+1,by go_num,by omega,(Z:qbd .u32 wS _ _),us.drew⟩
          case measure=>simp[intOf];omega
        ·obtain rfl:i=8:=by omega
         rw[show ((8:Nat):Int)=8 from rfl];have b9:qm9 [H,I,F,J,K,L,M,N] s=qck v [H,I,F,J,K,L,M,N] 8:=by unfold qm9;rw[qa HR]
         have hok:=qhf v [H,I,F,J,K,L,M,N] 8 ⟨rfl,hu⟩;have U:=j1.upd P (by omega);have k6:=nn.then P (by intro q hq h;rw[qa c6] at hq;omega);generalize hr:qck v [H,I,F,J,K,L,M,N] 8=r at hA hok;rw[hr] at b9;clear hr HR i8 j1 P nn hV e4;obtain⟨r8,-⟩:=hok;obtain⟨a,b,c,d,e,f,g,l,rfl⟩:=qcc r8;have HF:=qb b9;clear r8 b9;have z:=fun i=>U.free i
         have y0:=U.cell (i:=0) (by simp);have y1:=U.cell (i:=1) (by simp);have y2:=U.cell (i:=2) (by simp);have y3:=U.cell (i:=3) (by simp);have y4:=U.cell (i:=4) (by simp);have y5:=U.cell (i:=5) (by simp);have y6:=U.cell (i:=6) (by simp);have y7:=U.cell (i:=7) (by simp);have v0:=hA.cell (i:=0) (by simp);have v1:=hA.cell (i:=1) (by simp);have v2:=hA.cell (i:=2) (by simp);have v3:=hA.cell (i:=3) (by simp);have v4:=hA.cell (i:=4) (by simp);have v5:=hA.cell (i:=5) (by simp);have v6:=hA.cell (i:=6) (by simp);have v7:=hA.cell (i:=7) (by simp);simp at v0 v1 v2 v3 v4 v5 v6 v7 y0 y1 y2 y3 y4 y5 y6 y7;have HB:=qb U;clear U hA;obtain⟨wy,rfl⟩:∃wy:World,wy=wr:=⟨_,rfl⟩;go_wp2_with fail;have hB:=((((((((qa HB).set 0 a).set 1 b).set 2 c).set 3 d).set 4 e).set 5 f).set 6 g).set 7 l;have nB:=((((((((Upd.refl (fun k=>k=A+1) wy).set1 0 (.int .u32 a)).set1 1 (.int .u32 b)).set1 2 (.int .u32 c)).set1 3 (.int .u32 d)).set1 4 (.int .u32 e)).set1 5 (.int .u32 f)).set1 6 (.int .u32 g)).set1 7 (.int .u32 l);have nE:=k6.then nB (by intro q hq h;rw[qa c6] at hq;omega);replace hB:qbd .u32 _ (A+1) [a,b,c,d,e,f,g,l]:=hB;obtain⟨TB,hB⟩:=hB;refine bodyPost_ret (qke rfl _ _ (A+1) TB _ _ _ rfl hB Tryz.underlying184 rfl (by exact Tryz.infoW8)) rfl ?_;refine⟨?_,nE⟩;rw[qa HF];rfl
end Go.Proofs.YthnohmjbbeahmaaGreatDoor
