/-
  Package digest: Compress.
-/
import Derived.Test.YtjpmomdechibmaaGreatDoorMbc
import Derived.BigRegion
import Derived.Deep.RegionLaw
import Derived.Deep.CutRange
import Derived.Deep.DrawnRows
import Derived.IntWalk
import Derived.Laws.ResultCell
import Derived.Test.YtjpmomdechibmaaGreatDoorDag
set_option linter.unusedVariables false
set_option linter.unusedSimpArgs false
namespace Go.Proofs.YtjpmomdechibmaaGreatDoor
open Go.RowKit
def wd(ws:List Int)(i:Nat):Int:=ws.getD i 0
def qqv(s:ByteArray)(ws:List Int)(k:Nat):List Int:=ws.set (k / 4) (bits .or .u32 (wd ws (k / 4)*256%4294967296) (bt s k))
def qa2(s:ByteArray)(n:Nat):List Int:=(List.range n).foldl (qqv s) (List.replicate 64 0)
theorem qe9(s:ByteArray)(n:Nat):qa2 s (n+1)=qqv s (qa2 s n) n:=by simp[qa2,List.range_succ]
theorem qhi(s:ByteArray)(n:Nat):(qa2 s n).length=64:=by
 induction n with
 | zero=>simp[qa2]
 | succ n f=>rw[qe9];simp[qqv,f]
def qfh(ws:List Int):Prop:=∀x∈ws,0≤x∧x<4294967296
theorem qfh.at{ws:List Int}(h:qfh ws)(i:Nat):0≤wd ws i∧wd ws i<4294967296:=by
 unfold wd
 rw[List.getD_eq_getElem?_getD]
 cases f:ws[i]? with
 | none=>simp
 | some x=>exact h x (List.mem_of_getElem? f)
theorem qfh.set{ws:List Int}(h:qfh ws)(i:Nat){x:Int}(g:0≤x∧x<4294967296):qfh (ws.set i x):=by
 intro y f
 rcases List.mem_or_eq_of_mem_set f with f | rfl
 ·exact h y f
 ·exact g
theorem qok(s:ByteArray)(n:Nat):qfh (qa2 s n):=by
 induction n with
 | zero=>intro x f;simp[qa2] at f;omega
 | succ n g=>rw[qe9];exact g.set _ (qby ..)
def qj5:List Int:=[1116352408,1899447441,3049323471,3921009573,961987163,1508970993,2453635748,2870763221,3624381080,310598401,607225278,1426881987,1925078388,2162078206,2614888103,3248222580,3835390401,4022224774,264347078,604807628,770255983,1249150122,1555081692,1996064986,2554220882,2821834349,2952996808,3210313671,3336571891,3584528711,113926993,338241895,666307205,773529912,1294757372,1396182291,1695183700,1986661051,2177026350,2456956037,2730485921,2820302411,3259730800,3345764771,3516065817,3600352804,4094571909,275423344,430227734,506948616,659060556,883997877,958139571,1322822218,1537002063,1747873779,1955562222,2024104815,2227730452,2361852424,2428436474,2756734187,3204031479,3329325298]
def qjf:List Int:=[1779033703,3144134277,1013904242,2773480762,1359893119,2600822924,528734635,1541459225]
structure Tabs(w:World):Prop where
 table:∀i,i<64→w.cell? ⟨3,i,none⟩=some (.int .u32 (qj5.getD i 0))
 start:∀i,i<8→w.cell? ⟨1,i,none⟩=some (.int .u32 (qjf.getD i 0))
theorem Tabs.upd{S:Nat→Prop}{w w':World}(h:Tabs w)(u:Upd S w w')(g:¬S 3)(l:¬S 1):Tabs w':=⟨fun i f=>u.cell (h.table i f) g,fun i f=>u.cell (h.start i f) l⟩
theorem Tabs.lt{w:World}(h:Tabs w):3<w.heap.size∧1<w.heap.size:=⟨World.block_lt_of_cell? w _ (h.table 0 (by decide)),World.block_lt_of_cell? w _ (h.start 0 (by decide))⟩
theorem Tabs.new{w w':World}(h:Tabs w)(u:qy w w'):Tabs w':=h.upd u (fun h=>h) (fun h=>h)
theorem qxw:qfh qj5:=by unfold qfh qj5;decide
def qyy(x:Int):Int:=bits .xor .u32 (qb1 x [7,18]) (x / 8)
def sig1(y:Int):Int:=bits .xor .u32 (qb1 y [17,19]) (y / 1024)
def qri(ws:List Int)(j:Nat):List Int:=ws.set (j+16) ((wd ws j+qyy (wd ws (j+1))+wd ws (j+9)+sig1 (wd ws (j+14)))%4294967296)
def qau(s:ByteArray)(n:Nat):List Int:=(List.range n).foldl qri (qa2 s 64)
theorem qgl(s:ByteArray):qau s 0=qa2 s 64:=by unfold qau;simp only[List.range_zero,List.foldl_nil]
theorem qgk(s:ByteArray)(n:Nat):qau s (n+1)=qri (qau s n) n:=by simp[qau,List.range_succ]
theorem qdq(s:ByteArray)(n:Nat):(qau s n).length=64:=by
 induction n with
 | zero=>rw[qgl];exact qhi s 64
 | succ n f=>rw[qgk];simp[qri,f]
theorem qho(s:ByteArray)(n:Nat):qfh (qau s n):=by
 induction n with
 | zero=>rw[qgl];exact qok s 64
 | succ n f=>rw[qgk];exact f.set _ (by omega)
def chI(e f g:Int):Int:=bits .xor .u32 (bits .and .u32 e f) (bits .and .u32 (bits .xor .u32 4294967295 e) g)
def q0y(a b c:Int):Int:=bits .xor .u32 (bits .xor .u32 (bits .and .u32 a b) (bits .and .u32 a c)) (bits .and .u32 b c)
def q5c(e f g h k w:Int):Int:=(h+qb1 e [6,11,25]+chI e f g+k+w)%4294967296
def zad(a b c:Int):Int:=(qb1 a [2,13,22]+q0y a b c)%4294967296
def ql2(ws:List Int):List Int→Nat→List Int
 | [a,b,c,d,e,f,g,h],k=>[(q5c e f g h (qj5.getD k 0) (wd ws k)+zad a b c)%4294967296,a,b,c,(d+q5c e f g h (qj5.getD k 0) (wd ws k))%4294967296,e,f,g]
 | v,_=>v
def qe1(ws v:List Int)(n:Nat):List Int:=(List.range n).foldl (ql2 ws) v
theorem ql1(ws v:List Int):qe1 ws v 0=v:=by unfold qe1;simp only[List.range_zero,List.foldl_nil]
theorem ql0(ws v:List Int)(n:Nat):qe1 ws v (n+1)=ql2 ws (qe1 ws v n) n:=by simp[qe1,List.range_succ]
theorem qb4{l:List Int}(h:l.length=8):∃a b c d e f g i,l=[a,b,c,d,e,f,g,i]:=by
 match l,h with
 | [a,b,c,d,e,f,g,i],_=>exact⟨a,b,c,d,e,f,g,i,rfl⟩
theorem q5j(ws:List Int)(v:List Int)(k:Nat)(h:v.length=8∧qfh v):(ql2 ws v k).length=8∧qfh (ql2 ws v k):=by
 obtain⟨o,l⟩:=h
 obtain⟨a,b,c,d,e,f,g,i,rfl⟩:=qb4 o
 refine⟨rfl,?_⟩
 intro x m
 simp only[ql2,List.mem_cons,List.not_mem_nil,or_false] at m
 rcases m with rfl | rfl | rfl | rfl | rfl | rfl | rfl | rfl
 ·omega
 ·exact l _ (by simp)
 ·exact l _ (by simp)
 ·exact l _ (by simp)
 ·omega
 ·exact l _ (by simp)
 ·exact l _ (by simp)
 ·exact l _ (by simp)
theorem qmy(ws v:List Int)(n:Nat)(h:v.length=8∧qfh v):(qe1 ws v n).length=8∧qfh (qe1 ws v n):=by
 induction n with
 | zero=>rw[ql1];exact h
 | succ n f=>rw[ql0];exact q5j _ _ _ f
def qpt(v f:List Int)(i:Nat):List Int:=f.set i ((wd f i+wd v i)%4294967296)
def qcd(v f:List Int)(n:Nat):List Int:=(List.range n).foldl (qpt v) f
theorem qi2(v f:List Int):qcd v f 0=f:=by unfold qcd;simp only[List.range_zero,List.foldl_nil]
theorem qi1(v f:List Int)(n:Nat):qcd v f (n+1)=qpt v (qcd v f n) n:=by simp[qcd,List.range_succ]
theorem qgt(v f:List Int)(n:Nat)(h:f.length=8∧qfh f):(qcd v f n).length=8∧qfh (qcd v f n):=by
 induction n with
 | zero=>rw[qi2];exact h
 | succ n g=>rw[qi1];exact⟨by simp[qpt,g.1],g.2.set _ (by omega)⟩
def zbz(xs:List Value)(f:Array Value)(i:Nat)(v:Value)(w:World):Prop:=if i=3 then ∃g T,v = .slice (some ⟨g,0,none⟩) 3 3∧w.heap[g]? = some (.cells f T (0,0)) else v=xs.getD i undef
theorem q86{xs:List Value}{l:Array Value}(i:Nat)(v:Value){w w':World}(n:qy w w')(h:zbz xs l i v w):zbz xs l i v w':=by
 unfold zbz at h ⊢
 split
 ·rename_i f
  rw[if_pos f] at h
  obtain⟨g,T,e,m⟩:=h
  exact⟨g,T,e,n.old m (fun h=>h)⟩
 ·rename_i f
  rw[if_neg f] at h
  exact h
theorem qba.of{k:IntKind}{w:World}{b:Nat}{ws:List Int}{T:TypeId}{C:Array Value}(h:w.heap[b]? = some (.cells C T (0,0)))(e:C=(ws.map (Value.int k)).toArray):qba k w b ws:=⟨T,by rw[h,e]⟩
theorem Tryz.infoW64:(Tryz.prog.info? 215).map (·.size)=some 64:=by kernel_rfl
def zc6(x:Value):Sem Value:=Instr.loadAt 215 x
theorem qx0(x:Value):Instr.loadAt 215 x=zc6 x:=rfl
theorem zec(b o:Nat)(w:World):(zc6 (.pointer (some ⟨b,o,none⟩))).run Tryz.prog w=match zx w b o 64 with | some A=> .ok (.agg A) w | none=>qdw Tryz.prog 215 w b o :=
 zy 215 64 _ Tryz.underlying215 rfl Tryz.infoW64 b o w
theorem qba.row{k:IntKind}{w:World}{b:Nat}{ws:List Int}(h:qba k w b ws){n:Nat}(f:ws.length=n):zx w b 0 n=some (ws.map (Value.int k)).toArray:=by
 obtain⟨T,h⟩:=h
 exact qaq h n (by simp[f])
attribute [local go_sem ↓ high] qx0
attribute [local go_sem] zec
attribute [local go_sem ↓] Go.wp_at_zero Go.wp_at_succ
theorem qj1{P:Program}{i:Func}{p u:Tmp}{f:TypeId}(h:i.results=#[.cell p f,.tmp u])(tmps:Array Value)(w:World)(g:Nat)(t:TypeId)(cs:Array Value)(fr:Nat × Nat)(d:TypeDesc)
  (q:tmps.getD p undef = .pointer (some ⟨g,0,none⟩)) (m:w.heap[g]? = some (.cells cs t fr))
  (v:P.underlying f=some d) (l:(match d with | .struct _ | .array _ _=>true | _=>false)=true) (o:(P.info? f).map (·.size)=some cs.size) :
  (results i tmps).run P w = .ok (.tuple #[.agg cs,tmps.getD u undef]) w:=by
 rw[results_cell_tmp h,q]
 simp[asAddr,run_loadVar_row w g t f cs fr d m v l o,Result.andThen]
theorem Tryz.infoW8:(Tryz.prog.info? 180).map (·.size)=some 8:=by kernel_rfl
def qmb(h:List Int)(s:ByteArray):List Int:=qcd (qe1 (qau s 48) h 64) h 8
theorem quv(h:List Int)(s:ByteArray)(f:h.length=8∧qfh h):(qmb h s).length=8∧qfh (qmb h s):=qgt _ _ _ f
set_option maxRecDepth 100000 in
set_option maxHeartbeats 4000000 in
theorem qup(h:List Int)(s:ByteArray)(w:World)(hh:h.length=8)(hu:qfh h)(hs:s.size=64)(f9:Tabs w) :
  Calls Tryz.prog 128 #[.agg (h.map (Value.int .u32)).toArray,.string s] w fun e w'=>e = .returned (.tuple #[.agg ((qmb h s).map (Value.int .u32)).toArray,.bool true])∧qy w w':=by
 have hw:=f9.lt
 obtain⟨H,I,F,J,K,L,M,N,rfl⟩:∃a b c d e f g i,h=[a,b,c,d,e,f,g,i]:=by
  match h,hh with
  | [a,b,c,d,e,f,g,i],_=>exact⟨a,b,c,d,e,f,g,i,rfl⟩
 simp only[List.map_cons,List.map_nil]
 go_enter Tryz.func128,Tryz.ntmps128
 go_upto_region 4 with fail
 obtain⟨wA,a9⟩:∃wA:World,wA=((w.alloc (.cells #[.int .u32 H,.int .u32 I,.int .u32 F,.int .u32 J,.int .u32 K,.int .u32 L,.int .u32 M,.int .u32 N] 180)).alloc (.cells #[.int .u32 0,.int .u32 0,.int .u32 0,.int .u32 0,.int .u32 0,.int .u32 0,.int .u32 0,.int .u32 0] 180)).alloc (.cells #[.int .u32 0,.int .u32 0,.int .u32 0,.int .u32 0,.int .u32 0,.int .u32 0,.int .u32 0,.int .u32 0,.int .u32 0,.int .u32 0,.int .u32 0,.int .u32 0,.int .u32 0,.int .u32 0,.int .u32 0,.int .u32 0,.int .u32 0,.int .u32 0,.int .u32 0,.int .u32 0,.int .u32 0,.int .u32 0,.int .u32 0,.int .u32 0,.int .u32 0,.int .u32 0,.int .u32 0,.int .u32 0,.int .u32 0,.int .u32 0,.int .u32 0,.int .u32 0,.int .u32 0,.int .u32 0,.int .u32 0,.int .u32 0,.int .u32 0,.int .u32 0,.int .u32 0,.int .u32 0,.int .u32 0,.int .u32 0,.int .u32 0,.int .u32 0,.int .u32 0,.int .u32 0,.int .u32 0,.int .u32 0,.int .u32 0,.int .u32 0,.int .u32 0,.int .u32 0,.int .u32 0,.int .u32 0,.int .u32 0,.int .u32 0,.int .u32 0,.int .u32 0,.int .u32 0,.int .u32 0,.int .u32 0,.int .u32 0,.int .u32 0,.int .u32 0] 215):=⟨_,rfl⟩
 have sA:wA.heap.size=w.heap.size+3:=by rw[a9];simp
 have nA:qy w wA:=by rw[a9];exact(((Upd.refl _ _).alloc _).alloc _).alloc _
 have vA:qba .u32 wA w.heap.size [H,I,F,J,K,L,M,N]:=by rw[a9];exact⟨_,zl (zl (qi _ _) _) _⟩
 have vB:qba .u32 wA (w.heap.size+1) [0,0,0,0,0,0,0,0]:=by
  rw[a9]
  have:=qi (w.alloc (.cells #[.int .u32 H,.int .u32 I,.int .u32 F,.int .u32 J,.int .u32 K,.int .u32 L,.int .u32 M,.int .u32 N] 180)) (.cells #[.int .u32 0,.int .u32 0,.int .u32 0,.int .u32 0,.int .u32 0,.int .u32 0,.int .u32 0,.int .u32 0] 180)
  rw[World.size_alloc] at this
  exact⟨_,zl this _⟩
 have vW:qba .u32 wA (w.heap.size+1+1) (List.replicate 64 0):=by
  rw[a9]
  have:=qi ((w.alloc (.cells #[.int .u32 H,.int .u32 I,.int .u32 F,.int .u32 J,.int .u32 K,.int .u32 L,.int .u32 M,.int .u32 N] 180)).alloc (.cells #[.int .u32 0,.int .u32 0,.int .u32 0,.int .u32 0,.int .u32 0,.int .u32 0,.int .u32 0,.int .u32 0] 180)) (.cells #[.int .u32 0,.int .u32 0,.int .u32 0,.int .u32 0,.int .u32 0,.int .u32 0,.int .u32 0,.int .u32 0,.int .u32 0,.int .u32 0,.int .u32 0,.int .u32 0,.int .u32 0,.int .u32 0,.int .u32 0,.int .u32 0,.int .u32 0,.int .u32 0,.int .u32 0,.int .u32 0,.int .u32 0,.int .u32 0,.int .u32 0,.int .u32 0,.int .u32 0,.int .u32 0,.int .u32 0,.int .u32 0,.int .u32 0,.int .u32 0,.int .u32 0,.int .u32 0,.int .u32 0,.int .u32 0,.int .u32 0,.int .u32 0,.int .u32 0,.int .u32 0,.int .u32 0,.int .u32 0,.int .u32 0,.int .u32 0,.int .u32 0,.int .u32 0,.int .u32 0,.int .u32 0,.int .u32 0,.int .u32 0,.int .u32 0,.int .u32 0,.int .u32 0,.int .u32 0,.int .u32 0,.int .u32 0,.int .u32 0,.int .u32 0,.int .u32 0,.int .u32 0,.int .u32 0,.int .u32 0,.int .u32 0,.int .u32 0,.int .u32 0,.int .u32 0] 215)
  rw[World.size_alloc,World.size_alloc] at this
  exact⟨_,this⟩
 rw[←a9]
 clear a9
 have TA:=f9.new nA
 generalize f3:w.heap.size=A at *
 have c7:=qb f3
 clear f3
 have n2:A+3≤wA.heap.size:=by omega
 clear sA
 obtain⟨wo,rfl⟩:∃wo:World,wo=wA:=⟨_,rfl⟩
 go_wp2_with fail
 go_loopw [7,30] (fun _ iv wr=>∃k:Nat,iv = .int .i64 (k:Int)∧k≤64∧qba .u32 wr (A+1+1) (qa2 s k)∧Upd (fun k=>k=A+1+1) wo wr) (fun _ iv _=>64-(intOf iv).toNat)
 case atStart=>exact⟨0,rfl,by omega,vW,Upd.refl _ _⟩
 case round =>
  obtain⟨k,rfl,hk,hW,P⟩:=hrel
  by_cases n1:k<64
  ·have c3:=qhi s k
   have c0:=hW.cell (i:=k / 4) (by omega)
   have z0:=hW.free (k / 4)
   have O:=hW.set (k / 4) (bits .or .u32 (wd (qa2 s k) (k / 4)*256%4294967296) (bt s k))
   obtain⟨j7,j8⟩:=(qok s k).at (k / 4)
   rw[show (qa2 s k).set (k / 4) (bits .or .u32 (wd (qa2 s k) (k / 4)*256%4294967296) (bt s k))=qa2 s (k+1) from(qe9 s k).symm] at O
   change wr.cell? _=some (.int .u32 (wd (qa2 s k) (k / 4))) at c0
   have j9:∀W:World,(Instr.index 9 (.string s) (.int .i64 (k:Int))).run Tryz.prog W = .ok (.int .u8 (bt s k)) W:=fun W=>qm0 _ s _ _ k Tryz.underlying9 rfl (by omega) W
   obtain⟨g6,g7⟩:=qwi s k
   have e7:(k:Int)<64:=by omega
   have d5:((k:Int) / 4).toNat=k / 4:=by omega
   have e8:(0:Int)≤(k:Int) / 4:=by omega
   have e9:(k:Int) / 4<64:=by omega
   have f0:IntKind.i64.wrap ((k:Int) / 4)=(k:Int) / 4:=IntWalk.i64_in _ (by omega)
   have X:=qb O
   clear O c3 hW
   generalize wd (qa2 s k) (k / 4)=x at c0 j7 j8 X
   generalize bt s k=y at j9 g6 g7 X
   have b9:IntKind.u32.wrap (x*256)=x*256%4294967296:=by rw[IntKind.wrap_u32]
   have c8:IntKind.u32.wrap y=y:=IntWalk.u32_in _ (by omega)
   go_wp2_with fail
   go_region_law (fail)
   all_goals
    have us:=P.set1 (k / 4) (.int .u32 (bits .or .u32 (x*256%4294967296) y))
    have a8:=qa X
    generalize wr.setCell ⟨A+1+1,k / 4,none⟩ (.int .u32 (bits .or .u32 (x*256%4294967296) y))=wS at *
    go_wp2
    go_roundw
    case rel=>exact⟨k+1,by go_num,by omega,(a8:qba .u32 wS _ _),us.drew⟩
    case measure=>simp[intOf];omega
  ·obtain rfl:k=64:=by omega
   rw[show ((64:Nat):Int)=64 from rfl]
   have i6:=vA.upd P (by omega)
   have i8:=vB.upd P (by omega)
   have l7:=P.size
   have u0:=P
   clear vA vB vW P
   obtain⟨w2,rfl⟩:∃w2:World,w2=wr:=⟨_,rfl⟩
   go_wp2_with fail
   go_loopw [8,9,10,11,12] (fun iv _ _ _ _ wr=>∃j:Nat,iv = .int .i64 ((j:Int)+16)∧j≤48∧qba .u32 wr (A+1+1) (qau s j)∧Upd (fun k=>k=A+1+1) w2 wr) (fun iv _ _ _ _ _=>64-(intOf iv).toNat)
   case atStart=>exact⟨0,rfl,by omega,by rw[qgl];exact hW,Upd.refl _ _⟩
   case round =>
    clear hW
    obtain⟨j,rfl,hj,hW,P⟩:=hrel
    by_cases l5:j<48
    ·have c3:=qdq s j
     have hr:=qho s j
     have c1:wr.cell? ⟨A+1+1,j+1,none⟩=some (.int .u32 (wd (qau s j) (j+1))):=hW.cell (by omega)
     have e6:wr.cell? ⟨A+1+1,j+14,none⟩=some (.int .u32 (wd (qau s j) (j+14))):=hW.cell (by omega)
     obtain⟨r1,i4⟩:=hr.at (j+1)
     obtain⟨i5,d3⟩:=hr.at (j+14)
     obtain⟨r0,k6⟩:=hr.at j
     obtain⟨r9,k7⟩:=hr.at (j+9)
     have o:=qgk s j
     unfold qri qyy sig1 at o
     have HN:=qb o
     have HW:=qb hW
     have e7:(j:Int)<48:=by omega
     have d5:IntKind.i64.wrap ((j:Int)+16-15)=(j:Int)+1:=by rw[IntWalk.i64_in _ (by omega)];omega
     have e8:IntKind.i64.wrap ((j:Int)+16-2)=(j:Int)+14:=by rw[IntWalk.i64_in _ (by omega)];omega
     have e9:((j:Int)+1).toNat=j+1:=by omega
     have f0:((j:Int)+14).toNat=j+14:=by omega
     clear hW hr c3 o
     generalize hx:wd (qau s j) (j+1)=x at c1 r1 i4 HN
     generalize hy:wd (qau s j) (j+14)=y at e6 i5 d3 HN
     clear hx hy
     go_wp2_with fail
     go_quiet (fail)
     go_wp2_with fail
     refine(qt3 x 7 18 _ _ _ (by decide) (by decide) r1 i4 (by exact qi _ _)).mono ?_
     rintro e w5 ⟨rfl,q5⟩
     have n5:qy wr w5:=(((Upd.refl _ wr).drewN _).alloc _).trans (q5.upd _)
     clear q5
     go_wp2_with fail
     refine(qt3 y 17 19 _ _ _ (by decide) (by decide) i5 d3 (by exact qi _ _)).mono ?_
     rintro e w6 ⟨rfl,q6⟩
     have n6:qy wr w6:=n5.trans (((Upd.refl _ w5).alloc _).trans (q6.upd _))
     clear n5 q6 c1 e6
     have b8:=(qa HW).upd n6 (fun h=>h)
     have c0:w6.cell? ⟨A+1+1,j,none⟩=some (.int .u32 (wd (qau s j) j)):=b8.cell (by rw[qdq];omega)
     have c9:w6.cell? ⟨A+1+1,j+9,none⟩=some (.int .u32 (wd (qau s j) (j+9))):=b8.cell (by rw[qdq];omega)
     obtain⟨n3,m3⟩:∃v,w6.cell? ⟨A+1+1,j+16,none⟩=some v:=⟨_,b8.cell (by rw[qdq];omega)⟩
     have n4:=b8.free (j+16)
     go_upto_region 15 with fail
     obtain⟨p0,p1⟩:=qby .xor (qb1 x [7,18]) (x / 8)
     obtain⟨p2,p3⟩:=qby .xor (qb1 y [17,19]) (y / 1024)
     generalize bits .xor .u32 (qb1 x [7,18]) (x / 8)=p at HN p0 p1 ⊢
     generalize bits .xor .u32 (qb1 y [17,19]) (y / 1024)=q at HN p2 p3 ⊢
     generalize wd (qau s j) j=a at c0 r0 k6 HN
     generalize wd (qau s j) (j+9)=b at c9 r9 k7 HN
     have O:=b8.set (j+16) ((a+p+b+q)%4294967296)
     rw[←qa HN] at O
     have X:=qb O
     have u6:=P.then n6 (fun _ _ h=>h.elim)
     clear O b8 n6 HW HN d5 e8 e9 f0
     have b9:IntKind.i64.wrap (j:Int)=(j:Int):=IntWalk.i64_in _ (by omega)
     have c8:IntKind.i64.wrap ((j:Int)+16-7)=(j:Int)+9:=by rw[IntWalk.i64_in _ (by omega)];omega
     have m5:(j:Int)<64:=by omega
     have m6:(j:Int)+9<64:=by omega
     have m7:(j:Int)+16<64:=by omega
     have m8:(0:Int)≤(j:Int)+9:=by omega
     have m9:(0:Int)≤(j:Int)+16:=by omega
     have f1:((j:Int)+9).toNat=j+9:=by omega
     have f2:((j:Int)+16).toNat=j+16:=by omega
     have d6:IntKind.u32.wrap (a+p)=(a+p)%4294967296:=by rw[IntKind.wrap_u32]
     have d7:IntKind.u32.wrap ((a+p)%4294967296+b)=(a+p+b)%4294967296:=by rw[IntKind.wrap_u32];omega
     have j6:IntKind.u32.wrap ((a+p+b)%4294967296+q)=(a+p+b+q)%4294967296:=by rw[IntKind.wrap_u32];omega
     go_wp2_with fail
     go_region_law (fail)
     all_goals
      have us:=u6.set1 (j+16) (.int .u32 ((a+p+b+q)%4294967296))
      have a8:=qa X
      generalize w6.setCell ⟨A+1+1,j+16,none⟩ (.int .u32 ((a+p+b+q)%4294967296))=wS at *
      clear d6 d7 j6 b9 c8
      go_wp2
      go_roundw
      case rel=>exact⟨j+1,by first | (rw[show ((j+1:Nat):Int)+16=(j:Int)+16+1 by omega];done) | (simp;omega),by omega,(a8:qba .u32 wS _ _),us.drew⟩
      case measure=>simp[intOf];omega
    ·obtain rfl:j=48:=by omega
     rw[show ((48:Nat):Int)+16=64 from rfl]
     have V:=i6.upd P (by omega)
     have i9:=i8.upd P (by omega)
     have u3:=u0.trans P
     have l9:=P.size
     obtain⟨w3,rfl⟩:∃w3:World,w3=wr:=⟨_,rfl⟩
     have a0:=V.cell (i:=0) (by simp)
     have a1:=V.cell (i:=1) (by simp)
     have a2:=V.cell (i:=2) (by simp)
     have a3:=V.cell (i:=3) (by simp)
     have a4:=V.cell (i:=4) (by simp)
     have a5:=V.cell (i:=5) (by simp)
     have a6:=V.cell (i:=6) (by simp)
     have a7:=V.cell (i:=7) (by simp)
     simp at a0 a1 a2 a3 a4 a5 a6 a7
     have e4:=qb hW
     clear i6 i8 u0 P hW
     have g8:=(qa e4).row (qdq s 48)
     go_upto_region 17 with fail
     have vV:=qba.of (k:= .u32) (ws:=[H,I,F,J,K,L,M,N]) (qi w3 (.cells #[.int .u32 H,.int .u32 I,.int .u32 F,.int .u32 J,.int .u32 K,.int .u32 L,.int .u32 M,.int .u32 N] 180)) rfl
     have nV:qy w3 (w3.alloc (.cells #[.int .u32 H,.int .u32 I,.int .u32 F,.int .u32 J,.int .u32 K,.int .u32 L,.int .u32 M,.int .u32 N] 180)):=(Upd.refl _ _).alloc _
     generalize w3.alloc (.cells #[.int .u32 H,.int .u32 I,.int .u32 F,.int .u32 J,.int .u32 K,.int .u32 L,.int .u32 M,.int .u32 N] 180)=w4 at vV nV ⊢
     have c5:=qis g8 nV (fun h=>h)
     have k4:=qdq s 48
     have i1:=qho s 48
     have m2:=vV.lt
     have l8:=nV.size
     have TT:=(TA.upd u3 (by omega) (by omega)).new nV
     clear g8 e4 a0 a1 a2 a3 a4 a5 a6 a7
     generalize i0:qau s 48=ws at c5 k4 i1
     have e5:=qb i0
     clear i0
     generalize f4:(ws.map (Value.int .u32)).toArray=Cw at c5
     have d1:∀(k:Nat) (W:World),k<64→(Instr.index 215 (.agg Cw) (.int .i64 (k:Int))).run Tryz.prog W = .ok (.int .u32 (wd ws k)) W:=by
      intro k W hk
      have e1:Cw[k]? = some (.int .u32 (wd ws k)):=by
       rw[←f4,List.getElem?_toArray,List.getElem?_map,List.getElem?_eq_getElem (by omega),wd,List.getD_eq_getElem?_getD,List.getElem?_eq_getElem (by omega)]
       rfl
      have F:0≤(k:Int)∧(k:Int)<((64:Nat):Int):=by omega
      simp[Instr.index,run_underlying Tryz.underlying215,asIntOf,F,e1,go_sem]
      intro l4
      omega
     have HX:=qb d1
     clear d1 f4
     obtain⟨w5,rfl⟩:∃w5:World,w5=w4:=⟨_,rfl⟩
     go_wp2_with fail
     go_loopw [14,15,16,17,18,19,20,21,22,23,24,88] (fun _ _ _ _ _ _ _ _ _ _ _ iv wr=>∃k:Nat,iv = .int .i64 (k:Int)∧k≤64∧qba .u32 wr w3.heap.size (qe1 ws [H,I,F,J,K,L,M,N] k)∧Upd (fun k=>k=w3.heap.size) w5 wr) (fun _ _ _ _ _ _ _ _ _ _ _ iv _=>64-(intOf iv).toNat)
     case atStart=>exact⟨0,rfl,by omega,by rw[ql1];exact vV,Upd.refl _ _⟩
     case round =>
      obtain⟨k,rfl,hk,hV,P⟩:=hrel
      by_cases d2:k<64
      ·have Z:=qmy ws [H,I,F,J,K,L,M,N] k ⟨rfl,hu⟩
       have o:=ql0 ws [H,I,F,J,K,L,M,N] k
       generalize hv:qe1 ws [H,I,F,J,K,L,M,N] k=v at hV Z o
       clear hv
       obtain⟨h8,T⟩:=Z
       obtain⟨a,b,c,d,e,f,g,l,rfl⟩:=qb4 h8
       clear h8
       have HN:=qb o
       have v0:=hV.cell (i:=0) (by simp)
       have v1:=hV.cell (i:=1) (by simp)
       have v2:=hV.cell (i:=2) (by simp)
       have v3:=hV.cell (i:=3) (by simp)
       have v4:=hV.cell (i:=4) (by simp)
       have v5:=hV.cell (i:=5) (by simp)
       have v6:=hV.cell (i:=6) (by simp)
       have v7:=hV.cell (i:=7) (by simp)
       simp at v0 v1 v2 v3 v4 v5 v6 v7
       have HV:=qb hV
       clear o hV
       have ix:=qa HX k wr d2
       have tk:=(TT.upd P (by omega) (by omega)).table k d2
       obtain⟨t0,k8⟩:=qxw.at k
       obtain⟨x0,l3⟩:=i1.at k
       change wr.cell? _=some (.int .u32 (wd qj5 k)) at tk
       generalize f5:wd qj5 k=kk at tk t0 k8
       generalize g5:wd ws k=wk at ix x0 l3
       have b0:=T a (by simp)
       have b1:=T b (by simp)
       have b2:=T c (by simp)
       have b3:=T d (by simp)
       have b4:=T e (by simp)
       have b5:=T f (by simp)
       have b6:=T g (by simp)
       have b7:=T l (by simp)
       obtain⟨j4,j5⟩:=b4
       have BB:=qb (And.intro b0 (And.intro b1 (And.intro b2 (And.intro b3 (And.intro b5 (And.intro b6 b7))))))
       clear b0 b1 b2 b3 b5 b6 b7
       have n0:(k:Int)<64:=by omega
       clear T
       obtain⟨wq,rfl⟩:∃wq:World,wq=wr:=⟨_,rfl⟩
       go_wp2_with fail
       go_quiet (fail)
       clear v0 v1 v2 v3 v4 v5 v6 ix
       obtain⟨T0,T1⟩:=qlh e [6,11,25]
       obtain⟨p0,p1⟩:=qby .xor (bits .and .u32 e f) (bits .and .u32 (bits .xor .u32 4294967295 e) g)
       generalize d8:qb1 e [6,11,25]=te at T0 T1
       generalize f8:bits .xor .u32 (bits .and .u32 e f) (bits .and .u32 (bits .xor .u32 4294967295 e) g)=p at p0 p1
       have c4:q5c e f g l (qj5.getD k 0) (wd ws k)=(l+te+p+kk+wk)%4294967296:=by
        unfold q5c chI
        rw[d8,f8,g5,show qj5.getD k 0=kk from f5]
       clear f5 g5
       obtain⟨E,f7⟩:∃E:Int,E=(l+te+p+kk+wk)%4294967296:=⟨_,rfl⟩
       rw[←f7] at c4
       have d9:=qb c4
       clear c4
       have b9:IntKind.u32.wrap (l+te)=(l+te)%4294967296:=by rw[IntKind.wrap_u32]
       have c8:IntKind.u32.wrap ((l+te)%4294967296+p)=(l+te+p)%4294967296:=by rw[IntKind.wrap_u32];omega
       have f1:IntKind.u32.wrap ((l+te+p)%4294967296+kk)=(l+te+p+kk)%4294967296:=by rw[IntKind.wrap_u32];omega
       have f2:IntKind.u32.wrap ((l+te+p+kk)%4294967296+wk)=E:=by rw[IntKind.wrap_u32];omega
       clear f7
       have d6:(k:Int).toNat=k:=by omega
       have d7:IntKind.i64.wrap (k:Int)=(k:Int):=IntWalk.i64_in _ (by omega)
       go_wp2_with fail
       refine ze9 (by kernel_rfl) [[],[(0,106)],[],[],[(2,108),(3,109)],[(1,107),(4,110)],[],[],[(6,112),(7,113)],[],[(9,115)],[],[(10,116),(11,117)],[(8,114),(12,118)],[(5,111),(13,119)],[],[(15,121)],[(16,122)],[(14,120),(17,123)],[],[(18,124),(19,125)],[(20,126)]] 169 (by rfl) (by kernel_rfl)
        [(0,106),(1,107),(2,108),(3,109),(4,110),(5,111),(6,112),(7,113),(8,114),(9,115),(10,116),(11,117),(12,118),(13,119),(14,120),(15,121),(16,122),(17,123),(18,124),(19,125),(20,126),(21,23)] (by kernel_rfl) (fun w'=>qy wq w') qy
        (zbz [.pointer (some ⟨w3.heap.size,7,none⟩),.int .u32 (l),.int .u32 (e),undef,.int .u32 (te),.int .u32 ((l+te)%4294967296),.int .u32 (e),.int .u32 (f),.int .u32 (bits .and .u32 e f),.int .u32 (e),.int .u32 (bits .xor .u32 4294967295 e),.int .u32 (g),.int .u32 (bits .and .u32 (bits .xor .u32 4294967295 e) g),.int .u32 (p),.int .u32 ((l+te+p)%4294967296),.int .i64 (k:Int),.pointer (some ⟨3,k,none⟩),.int .u32 (kk),.int .u32 ((l+te+p+kk)%4294967296),.int .u32 (wk),.int .u32 E,.int .u32 E] #[.int .u64 6,.int .u64 11,.int .u64 25]) (((Upd.refl _ wq).drewN _).drew) (fun w=>Upd.refl _ w) (fun i v w w' _ _ n h=>q86 i v n h) ?_ ?_
       ·have q7:∀ {w':World},qy wq w'→w'.cell? ⟨w3.heap.size,7,none⟩=some (.int .u32 l):=fun n=>n.cell v7 (fun h=>h)
        have qt:∀ {w':World},qy wq w'→w'.cell? ⟨3,k,none⟩=some (.int .u32 kk):=fun n=>n.cell tk (fun h=>h)
        refine z6.plain rfl ?_ (z6.plain rfl ?_ (z6.plain rfl ?_ (z6.plain rfl ?_ (z6.plain rfl ?_ (z6.plain rfl ?_ (z6.plain rfl ?_ (z6.plain rfl ?_ (z6.plain rfl ?_ (z6.plain rfl ?_ (z6.plain rfl ?_ (z6.plain rfl ?_ (z6.plain rfl ?_ (z6.plain rfl ?_ (z6.plain rfl ?_ (z6.plain rfl ?_ (z6.plain rfl ?_ (z6.plain rfl ?_ (z6.plain rfl ?_ (z6.plain rfl ?_ (z6.plain rfl ?_ (z6.plain rfl ?_ (z6.nil))))))))))))))))))))))
        ·intro ql w' t _
         unfold zk;simp only[putL];go_simp
         first | exact⟨Upd.refl _ _,rfl⟩ | exact⟨Upd.refl _ _,t,rfl⟩ | skip
        ·rintro ql w' t ⟨C,-⟩
         replace C:ql 0 = .pointer (some ⟨w3.heap.size,7,none⟩):=C
         have q7:=q7 t
         unfold zk;simp only[putL];go_simp
         first | exact⟨Upd.refl _ _,rfl⟩ | exact⟨Upd.refl _ _,t,rfl⟩ | skip
        ·intro ql w' t _
         unfold zk;simp only[putL];go_simp
         first | exact⟨Upd.refl _ _,rfl⟩ | exact⟨Upd.refl _ _,t,rfl⟩ | skip
        ·intro ql w' t _
         unfold zk;simp only[putL];go_simp
         first | exact⟨(Upd.refl _ _).alloc _,t.trans ((Upd.refl _ _).alloc _),_,_,rfl,qi _ _⟩ | skip
        ·rintro ql w' t ⟨C,R,-⟩
         replace C:ql 2 = .int .u32 (e):=C
         obtain⟨g3,T3,R,hb⟩:=R
         unfold zk;simp only[putL];go_simp
         refine(qow e 6 11 25 _ _ _ (by decide) (by decide) (by decide) j4 j5 hb).mono ?_
         rintro e2 w2 ⟨rfl,q2⟩
         exact⟨_,rfl,q2.upd _,t.trans (q2.upd _),by rw[d8];rfl⟩
        ·rintro ql w' t ⟨C,R,-⟩
         replace C:ql 1 = .int .u32 (l):=C
         replace R:ql 4 = .int .u32 (te):=R
         unfold zk;simp only[putL];go_simp
         first | exact⟨Upd.refl _ _,rfl⟩ | exact⟨Upd.refl _ _,t,rfl⟩ | skip
        ·intro ql w' t _
         unfold zk;simp only[putL];go_simp
         first | exact⟨Upd.refl _ _,rfl⟩ | exact⟨Upd.refl _ _,t,rfl⟩ | skip
        ·intro ql w' t _
         unfold zk;simp only[putL];go_simp
         first | exact⟨Upd.refl _ _,rfl⟩ | exact⟨Upd.refl _ _,t,rfl⟩ | skip
        ·rintro ql w' t ⟨C,R,-⟩
         replace C:ql 6 = .int .u32 (e):=C
         replace R:ql 7 = .int .u32 (f):=R
         unfold zk;simp only[putL];go_simp
         first | exact⟨Upd.refl _ _,rfl⟩ | exact⟨Upd.refl _ _,t,rfl⟩ | skip
        ·intro ql w' t _
         unfold zk;simp only[putL];go_simp
         first | exact⟨Upd.refl _ _,rfl⟩ | exact⟨Upd.refl _ _,t,rfl⟩ | skip
        ·rintro ql w' t ⟨C,-⟩
         replace C:ql 9 = .int .u32 (e):=C
         unfold zk;simp only[putL];go_simp
         first | exact⟨Upd.refl _ _,rfl⟩ | exact⟨Upd.refl _ _,t,rfl⟩ | skip
        ·intro ql w' t _
         unfold zk;simp only[putL];go_simp
         first | exact⟨Upd.refl _ _,rfl⟩ | exact⟨Upd.refl _ _,t,rfl⟩ | skip
        ·rintro ql w' t ⟨C,R,-⟩
         replace C:ql 10 = .int .u32 (bits .xor .u32 4294967295 e):=C
         replace R:ql 11 = .int .u32 (g):=R
         unfold zk;simp only[putL];go_simp
         first | exact⟨Upd.refl _ _,rfl⟩ | exact⟨Upd.refl _ _,t,rfl⟩ | skip
        ·rintro ql w' t ⟨C,R,-⟩
         replace C:ql 8 = .int .u32 (bits .and .u32 e f):=C
         replace R:ql 12 = .int .u32 (bits .and .u32 (bits .xor .u32 4294967295 e) g):=R
         unfold zk;simp only[putL];go_simp
         first | exact⟨Upd.refl _ _,rfl⟩ | exact⟨Upd.refl _ _,t,rfl⟩ | skip
        ·rintro ql w' t ⟨C,R,-⟩
         replace C:ql 5 = .int .u32 ((l+te)%4294967296):=C
         replace R:ql 13 = .int .u32 (p):=R
         unfold zk;simp only[putL];go_simp
         first | exact⟨Upd.refl _ _,rfl⟩ | exact⟨Upd.refl _ _,t,rfl⟩ | skip
        ·intro ql w' t _
         unfold zk;simp only[putL];go_simp
         first | exact⟨Upd.refl _ _,rfl⟩ | exact⟨Upd.refl _ _,t,rfl⟩ | skip
        ·rintro ql w' t ⟨C,-⟩
         replace C:ql 15 = .int .i64 (k:Int):=C
         unfold zk;simp only[putL];go_simp
         first | exact⟨Upd.refl _ _,rfl⟩ | exact⟨Upd.refl _ _,t,rfl⟩ | skip
        ·rintro ql w' t ⟨C,-⟩
         replace C:ql 16 = .pointer (some ⟨3,k,none⟩):=C
         have qt:=qt t
         unfold zk;simp only[putL];go_simp
         first | exact⟨Upd.refl _ _,rfl⟩ | exact⟨Upd.refl _ _,t,rfl⟩ | skip
        ·rintro ql w' t ⟨C,R,-⟩
         replace C:ql 14 = .int .u32 ((l+te+p)%4294967296):=C
         replace R:ql 17 = .int .u32 (kk):=R
         unfold zk;simp only[putL];go_simp
         first | exact⟨Upd.refl _ _,rfl⟩ | exact⟨Upd.refl _ _,t,rfl⟩ | skip
        ·intro ql w' t _
         unfold zk;simp only[putL];go_simp
         first | exact⟨Upd.refl _ _,rfl⟩ | exact⟨Upd.refl _ _,t,rfl⟩ | skip
        ·rintro ql w' t ⟨C,R,-⟩
         replace C:ql 18 = .int .u32 ((l+te+p+kk)%4294967296):=C
         replace R:ql 19 = .int .u32 (wk):=R
         unfold zk;simp only[putL];go_simp
         first | exact⟨Upd.refl _ _,rfl⟩ | exact⟨Upd.refl _ _,t,rfl⟩ | skip
        ·rintro ql w' t ⟨C,-⟩
         replace C:ql 20 = .int .u32 E:=C
         unfold zk;simp only[putL];go_simp
         first | exact⟨Upd.refl _ _,rfl⟩ | exact⟨Upd.refl _ _,t,rfl⟩ | skip
       ·intro ql w9 n9 g9
        have Y:=g9 21 (by decide)
        replace Y:ql 21 = .int .u32 E:=Y
        clear g9
        simp only[putL,Y];go_simp
        clear Y
        have e3:=(qa HV).upd n9 (fun h=>h)
        have u9:=P.then n9 (fun _ _ h=>h.elim)
        have j1:=qb e3
        obtain⟨⟨a0,d4⟩,-,-,⟨d0,m4⟩,-⟩:=qa BB
        clear e3 HV v7 tk n9 b9 c8 f1 f2 d6 d7 BB d8 f8
        obtain⟨wz,rfl⟩:∃wz:World,wz=w9:=⟨_,rfl⟩
        go_wp2_with fail
        refine(qow a 2 13 22 _ _ _ (by decide) (by decide) (by decide) a0 d4 (by exact qi _ _)).mono ?_
        rintro e2 l0 ⟨rfl,i3⟩
        have i2:qy wz l0:=(((Upd.refl _ wz)).alloc _).trans (i3.upd _)
        clear i3
        have D:=(qa j1).upd i2 (fun h=>h)
        have k9:=u9.then i2 (fun _ _ h=>h.elim)
        generalize g2:qb1 a [2,13,22]=ta
        have k0:∀m:Int,IntKind.u32.wrap (ta+m)=(ta+m)%4294967296:=fun m=>by rw[IntKind.wrap_u32]
        go_upto_region 23 with fail
        generalize f6:bits .xor .u32 (bits .xor .u32 (bits .and .u32 a b) (bits .and .u32 a c)) (bits .and .u32 b c)=ma
        have c6:zad a b c=(ta+ma)%4294967296:=by unfold zad q0y;rw[g2,f6]
        obtain⟨two,g4⟩:∃two:Int,two=(ta+ma)%4294967296:=⟨_,rfl⟩
        rw[←g4] at c6 ⊢
        have e0:=qb c6
        clear c6 g2 f6 g4 k0
        have k1:IntKind.u32.wrap (E+two)=(E+two)%4294967296:=by rw[IntKind.wrap_u32]
        have k2:IntKind.u32.wrap (d+E)=(d+E)%4294967296:=by rw[IntKind.wrap_u32]
        have z:=fun i=>D.free i
        have v0:=D.cell (i:=0) (by simp)
        have v1:=D.cell (i:=1) (by simp)
        have v2:=D.cell (i:=2) (by simp)
        have v3:=D.cell (i:=3) (by simp)
        have v4:=D.cell (i:=4) (by simp)
        have v5:=D.cell (i:=5) (by simp)
        have v6:=D.cell (i:=6) (by simp)
        have v7:=D.cell (i:=7) (by simp)
        simp at v0 v1 v2 v3 v4 v5 v6 v7
        have j2:=qb D
        clear D
        go_wp2_with fail
        have O:=((((((((qa j2).set 0 ((E+two)%4294967296)).set 1 a).set 2 b).set 3 c).set 4 ((d+E)%4294967296)).set 5 e).set 6 f).set 7 g
        have us:=(((((((k9.set1 0 (.int .u32 ((E+two)%4294967296))).set1 1 (.int .u32 a)).set1 2 (.int .u32 b)).set1 3 (.int .u32 c)).set1 4 (.int .u32 ((d+E)%4294967296))).set1 5 (.int .u32 e)).set1 6 (.int .u32 f)).set1 7 (.int .u32 g)
        have k3:qe1 ws [H,I,F,J,K,L,M,N] (k+1)=[(E+two)%4294967296,a,b,c,(d+E)%4294967296,e,f,g]:=by
         rw[qa HN]
         simp only[ql2]
         rw[qa d9,qa e0]
        go_roundw
        case rel=>exact⟨k+1,by go_num,by omega,by rw[k3];exact O,us⟩
        case measure=>simp[intOf];omega
      ·obtain rfl:k=64:=by omega
       rw[show ((64:Nat):Int)=64 from rfl]
       have m0:=P.size
       have i7:=(V.upd nV (fun h=>h)).upd P (by omega)
       have j0:=(i9.upd nV (fun h=>h)).upd P (by omega)
       have nn:=((nA.then u3 (by intro q hq h;rw[qa c7] at hq;omega)).trans nV).then P (by intro q hq h;rw[qa c7] at hq;omega)
       have h9:=qmy ws [H,I,F,J,K,L,M,N] 64 ⟨rfl,hu⟩
       have HR:=qb (show qe1 (qau s 48) [H,I,F,J,K,L,M,N] 64=qe1 ws [H,I,F,J,K,L,M,N] 64 by rw[qa e5])
       generalize qe1 ws [H,I,F,J,K,L,M,N] 64=v at hV h9 HR
       clear P V i9 u3 nV c5 HX vV TT
       obtain⟨h8,T⟩:=h9
       obtain⟨w6,rfl⟩:∃w6:World,w6=wr:=⟨_,rfl⟩
       go_wp2_with fail
       go_loopw [25,156] (fun _ iv wr=>∃i:Nat,iv = .int .i64 (i:Int)∧i≤8∧qba .u32 wr A (qcd v [H,I,F,J,K,L,M,N] i)∧Upd (fun k=>k=A) w6 wr) (fun _ iv _=>8-(intOf iv).toNat)
       case atStart=>exact⟨0,rfl,by omega,by rw[qi2];exact i7,Upd.refl _ _⟩
       case round =>
        obtain⟨i,rfl,hi,hA,P⟩:=hrel
        by_cases l6:i<8
        ·have Z:=qgt v [H,I,F,J,K,L,M,N] i ⟨rfl,hu⟩
         have o:=qi1 v [H,I,F,J,K,L,M,N] i
         unfold qpt at o
         have c0:=hA.cell (i:=i) (by omega)
         have z0:=hA.free i
         have c1:=(hV.upd P (by omega)).cell (i:=i) (by omega)
         obtain⟨a0,d4⟩:=Z.2.at i
         obtain⟨b0,j3⟩:=T.at i
         have O:=hA.set i ((wd (qcd v [H,I,F,J,K,L,M,N] i) i+wd v i)%4294967296)
         rw[←o] at O
         have X:=qb O
         clear O o Z hA
         change wr.cell? _=some (.int .u32 (wd (qcd v [H,I,F,J,K,L,M,N] i) i)) at c0
         change wr.cell? _=some (.int .u32 (wd v i)) at c1
         generalize wd (qcd v [H,I,F,J,K,L,M,N] i) i=x at c0 a0 d4 X
         generalize wd v i=y at c1 b0 j3 X
         have b9:IntKind.u32.wrap (x+y)=(x+y)%4294967296:=by rw[IntKind.wrap_u32]
         have e7:(i:Int)<8:=by omega
         have d5:(i:Int).toNat=i:=by omega
         go_wp2_with fail
         go_region_law (fail)
         all_goals
          have us:=P.set1 i (.int .u32 ((x+y)%4294967296))
          have a8:=qa X
          generalize wr.setCell ⟨A,i,none⟩ (.int .u32 ((x+y)%4294967296))=wS at *
          go_wp2
          go_roundw
          case rel=>exact⟨i+1,by go_num,by omega,(a8:qba .u32 wS _ _),us.drew⟩
          case measure=>simp[intOf];omega
        ·obtain rfl:i=8:=by omega
         rw[show ((8:Nat):Int)=8 from rfl]
         have c2:qmb [H,I,F,J,K,L,M,N] s=qcd v [H,I,F,J,K,L,M,N] 8:=by unfold qmb;rw[qa HR]
         have Z:=qgt v [H,I,F,J,K,L,M,N] 8 ⟨rfl,hu⟩
         have U:=j0.upd P (by omega)
         have k5:=nn.then P (by intro q hq h;rw[qa c7] at hq;omega)
         generalize hr:qcd v [H,I,F,J,K,L,M,N] 8=r at hA Z
         rw[hr] at c2
         clear hr HR i7 j0 P nn hV e5
         obtain⟨r8,-⟩:=Z
         obtain⟨a,b,c,d,e,f,g,l,rfl⟩:=qb4 r8
         have HF:=qb c2
         clear r8 c2
         have z:=fun i=>U.free i
         have y0:=U.cell (i:=0) (by simp)
         have y1:=U.cell (i:=1) (by simp)
         have y2:=U.cell (i:=2) (by simp)
         have y3:=U.cell (i:=3) (by simp)
         have y4:=U.cell (i:=4) (by simp)
         have y5:=U.cell (i:=5) (by simp)
         have y6:=U.cell (i:=6) (by simp)
         have y7:=U.cell (i:=7) (by simp)
         have v0:=hA.cell (i:=0) (by simp)
         have v1:=hA.cell (i:=1) (by simp)
         have v2:=hA.cell (i:=2) (by simp)
         have v3:=hA.cell (i:=3) (by simp)
         have v4:=hA.cell (i:=4) (by simp)
         have v5:=hA.cell (i:=5) (by simp)
         have v6:=hA.cell (i:=6) (by simp)
         have v7:=hA.cell (i:=7) (by simp)
         simp at v0 v1 v2 v3 v4 v5 v6 v7 y0 y1 y2 y3 y4 y5 y6 y7
         have HB:=qb U
         clear U hA
         obtain⟨wy,rfl⟩:∃wy:World,wy=wr:=⟨_,rfl⟩
         go_wp2_with fail
         have hB:=((((((((qa HB).set 0 a).set 1 b).set 2 c).set 3 d).set 4 e).set 5 f).set 6 g).set 7 l
         have nB:=((((((((Upd.refl (fun k=>k=A+1) wy).set1 0 (.int .u32 a)).set1 1 (.int .u32 b)).set1 2 (.int .u32 c)).set1 3 (.int .u32 d)).set1 4 (.int .u32 e)).set1 5 (.int .u32 f)).set1 6 (.int .u32 g)).set1 7 (.int .u32 l)
         have nE:=k5.then nB (by intro q hq h;rw[qa c7] at hq;omega)
         replace hB:qba .u32 _ (A+1) [a,b,c,d,e,f,g,l]:=hB
         obtain⟨TB,hB⟩:=hB
         refine bodyPost_ret (qj1 rfl _ _ (A+1) TB _ _ _ rfl hB Tryz.underlying180 rfl (by exact Tryz.infoW8)) rfl ?_
         refine⟨?_,nE⟩
         rw[qa HF]
         rfl
end Go.Proofs.YtjpmomdechibmaaGreatDoor
