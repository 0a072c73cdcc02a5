/-
  Package digest: tail, Pad, Sum.
-/
import Derived.Test.YthnohmjbbeahmaaGreatDoorMbd
import Derived.Outline
import Derived.Test.YthnohmjbbeahmaaGreatDoorMaa
import Derived.Lib.JoinLaws
import Derived.ArgAppend
import Derived.Laws.IdiomStrings
import Derived.Laws.BitsAllLaws
import Derived.Laws.Bits64
import Derived.IntWalk
import Derived.Deep.CutRange
import Derived.BigRegion
import Derived.Deep.RegionLaw
set_option linter.unusedVariables false
set_option linter.unusedSimpArgs false
namespace Go.Proofs.YthnohmjbbeahmaaGreatDoor
open Go.RowKit
def qd3(n:Nat):Nat:=(119-n%64)%64
theorem qnw(n:Nat):qd3 n<64:=Nat.mod_lt _ (by decide)
theorem zef(n k:Nat)(h:k<qd3 n):(n+(k+1)+8)%64≠0:=by unfold qd3 at h;omega
theorem q4r(n:Nat):(n+(qd3 n+1)+8)%64=0:=by unfold qd3;omega
def qk9(n i:Nat):Int:=(8*n:Int) / 2 ^ (56-8*i)%256
def qpz(n:Nat):List Int:=(128::List.replicate (qd3 n) 0)++(List.range 8).map (qk9 n)
theorem qo5(n:Nat):(qpz n).length=qd3 n+9:=by simp[qpz]
set_option maxRecDepth 100000 in
set_option maxHeartbeats 1000000 in
theorem zcs(n:Nat)(w:World)(Z:n≤1073741824) :
  Calls Tryz.prog 133 #[.int .u64 n] w (qbr (.string (strOfNums (qpz n))) w):=by
 have hz:=qnw n
 go_enter Tryz.func133,Tryz.ntmps133
 go_wp2_with fail
 have I:=qb8.made w w.heap.size [128] (Nat.le_refl _) (by decide)
 have P:Upd (fun k=>w.heap.size≤k) w (w.alloc (.cells #[.int .u8 128] 5)):=(Upd.refl _ _).alloc _
 simp only[List.map_cons,List.map_nil,List.length_cons,List.length_nil,Nat.zero_add] at I
 generalize w.alloc (.cells #[.int .u8 128] 5)=wa at I P ⊢
 have m:=qb I
 clear I
 go_loopw [3] (fun v wr=>∃(k:Nat) (a:Option Addr) (c:Nat),v = .slice a (k+1) c∧k≤qd3 n∧Hid (qb8 wr w.heap.size v (128::List.replicate k 0))∧Upd (fun k=>w.heap.size≤k) w wr) (fun v _=>100-(match v with | .slice _ l _=>l | _=>0))
 case atStart=>exact⟨0,_,_,rfl,Nat.zero_le _,m,P⟩
 case round =>
  obtain⟨k,a,c,rfl,Y,m,C⟩:=hrel;by_cases F:k<qd3 n
  ·have z:=zef n k F;have T:((((n:Int)+((k:Int)+1))+8)%64 != 0)=true:=by rw[bne_iff_ne];omega
   have K:(k:Int)<64:=by omega
   have L:(n:Int)≤1073741824:=by omega
   have J:=C.size;clear z;go_wp2_with (at_builtin;refine qks rfl (.tmp 14) (.tmp 15) rfl w.heap.size _ _ rfl 0 _ _ rfl (qa m) (by simp;omega) J ?_);intro W O g H;have N:=C.then H (fun q _ h=>((qa m).ge h).1);obtain⟨D,E,rfl⟩:=g.shape;replace g:qb8 O w.heap.size (Value.slice D (128::(List.replicate k (0:Int)++[0])).length E) (128::(List.replicate k 0++[0])):=g;rw[←List.replicate_succ'] at g;simp only[List.length_append,List.length_cons,List.length_replicate,List.length_nil,Nat.zero_add] at g ⊢;have t:=qb g;clear g H m;go_wp2;go_roundw
   case rel=>exact⟨k+1,D,E,rfl,by omega,t,N⟩
   case measure=>simp;omega
  ·obtain rfl:k=qd3 n:=by omega
   have z:=q4r n;have T:((((n:Int)+((qd3 n:Int)+1))+8)%64 != 0)=false:=by rw[bne_eq_false_iff_eq];omega
   have K:(qd3 n:Int)<64:=by omega
   have L:(n:Int)≤1073741824:=by omega
   obtain⟨R,rfl⟩:∃R:World,R=wr:=⟨_,rfl⟩;clear z;go_wp2_with fail
   go_loopw [3,4,17] (fun v _ M wr=>∃(i:Nat) (a:Option Addr) (c:Nat),M = .int .i64 (i:Int)∧i≤8∧v = .slice a (qd3 n+1+i) c∧Hid (qb8 wr w.heap.size v ((128::List.replicate (qd3 n) 0)++(List.range i).map (qk9 n)))∧Upd (fun k=>w.heap.size≤k) w wr) (fun _ _ M _=>8-(intOf M).toNat)
   case atStart=>exact⟨0,_,_,rfl,by omega,rfl,by simpa using m,C⟩
   case round =>
    obtain⟨i,a,c,rfl,X,rfl,m,C⟩:=hrel;by_cases F:i<8
    ·have U:(i:Int)<8:=by omega
     have J:=C.size;go_wp2_with (at_builtin;refine qks rfl (.tmp 20) (.tmp 28) rfl w.heap.size _ _ rfl _ _ _ rfl (qa m) (by simp;omega) J ?_);intro W O g H;have N:=C.then H (fun q _ h=>((qa m).ge h).1);obtain⟨D,E,rfl⟩:=g.shape;have o:(128::(List.replicate (qd3 n) (0:Int)++((List.range i).map (qk9 n)++[8*(n:Int) / 2 ^ (56-8*i)%256]))).length=qd3 n+1+(i+1):=by simp;omega
     rw[o] at g ⊢;replace g:qb8 O w.heap.size (.slice D (qd3 n+1+(i+1)) E) ((128::List.replicate (qd3 n) 0)++(List.range (i+1)).map (qk9 n)):=by
      rw[List.range_succ,List.map_append,←List.append_assoc];have e:(128::List.replicate (qd3 n) (0:Int))++(List.range i).map (qk9 n)++[qk9 n i]=128::(List.replicate (qd3 n) 0++((List.range i).map (qk9 n)++[8*(n:Int) / 2 ^ (56-8*i)%256])):=by simp[qk9]
      exact e▸g
     clear o;have t:=qb g;clear g H m;go_wp2;go_roundw
     case rel=>exact⟨i+1,D,E,by go_num,by omega,rfl,t,N⟩
     case measure=>simp[intOf];omega
    ·obtain rfl:i=8:=by omega
     rw[show ((8:Nat):Int)=8 from rfl];have V:=qlg (qa m);go_wp2;go_ret;exact⟨rfl,C.below' (Nat.le_refl _) (fun _ h=>h) |> fun h=>Upd.of_below h (Nat.le_refl _)⟩
set_option maxHeartbeats 1000000 in
theorem zeg(s:ByteArray)(w:World)(o:s.size≤1073741824) :
  Calls Tryz.prog 114 #[.string s] w (qbr (.string (s++strOfNums (qpz s.size))) w):=by
 have m:(s.size:Int)≤1073741824:=by omega
 have q:=qnw s.size
 have g:(strOfNums (qpz s.size)).size=qd3 s.size+9:=by rw[strOfNums_size,qo5]
 generalize qd3 s.size=z at q g
 go_enter Tryz.func114,Tryz.ntmps114
 go_wp2_with fail
 refine(zcs s.size w o).mono ?_
 rintro e w1 ⟨rfl,v⟩
 generalize i:strOfNums (qpz s.size)=t at g ⊢
 have l:=qb i
 clear i
 go_wp2
 go_ret
 exact⟨by rw[qa l];rfl,v⟩
theorem qtn{w:World}{b n:Nat}{A:Array Value}(v:0<n)(t:A.size=n)(h:∀j,j<n→w.cell? ⟨b,j,none⟩=A[j]?):zm w b 0 n=some A:=by
 have g:=h (n-1) (by omega);rw[Array.getElem?_eq_getElem (by omega)] at g;unfold zm;unfold World.cell? at h g;cases l:w.heap[b]? with
 | none=>rw[l] at g;cases g
 | some o =>
  simp only[l] at h g;cases o with
  | cells C T q =>
   simp only at h g ⊢;have z:=(Array.getElem?_eq_some_iff.1 g).1;rw[if_pos (by omega)];congr 1;refine Array.ext_getElem? fun i=> ?_
   rw[Array.getElem?_extract];by_cases m:i<n
   ·rw[if_pos (by omega),Nat.zero_add];exact h i m
   ·rw[if_neg (by omega),Array.getElem?_eq_none (by omega)]
  | _=>cases g
theorem Tabs.row{w:World}(h:Tabs w):zm w 1 0 8=some (qjw.map (Value.int .u32)).toArray:=by
 refine qtn (by decide) rfl fun j g=> ?_
 rw[h.start j g]
 match j,g with
 | 0,_=>rfl
 | 1,_=>rfl
 | 2,_=>rfl
 | 3,_=>rfl
 | 4,_=>rfl
 | 5,_=>rfl
 | 6,_=>rfl
 | 7,_=>rfl
theorem qne:qf6 qjw:=by unfold qf6 qjw;decide
def qi5(s:ByteArray):ByteArray:=s++strOfNums (qpz s.size)
def qgs(s:ByteArray):List Int:=qhh (qkk ((qi5 s).size / 64) qjw (qi5 s)) 32
theorem qc4(s:ByteArray):(qgs s).length=32:=qir _ _
def zfe(x:Value):Sem Value:=Instr.loadAt 33 x
theorem qk6(x:Value):Instr.loadAt 33 x=zfe x:=rfl
theorem q2a(b o:Nat)(w:World):(zfe (.pointer (some ⟨b,o,none⟩))).run Tryz.prog w=match zm w b o 32 with | some A=> .ok (.agg A) w | none=>qek Tryz.prog 33 w b o :=
 qae 33 32 _ Tryz.underlying33 rfl Tryz.infoHash b o w
def zfp(x v:Value):Sem Unit:=Instr.storeAt 33 x v
theorem qln(x v:Value):Instr.storeAt 33 x v=zfp x v:=rfl
theorem q3g(b o:Nat)(A:Array Value)(w:World):(zfp (.pointer (some ⟨b,o,none⟩)) (.agg A)).run Tryz.prog w=if stOk w b o 32 A=true then .ok () (w.setCells b o A.toList) else qf2 Tryz.prog 33 w b o A :=
 qax 33 32 Tryz.infoHash b o A w
attribute [local go_sem ↓ high] qr6 qs0 qk6 qln
attribute [local go_sem] zfm zfy q2a q3g
def zhp(g:World)(A:Nat)(r:List Int):Nat→World→Prop
 | 0,w=>qu g w
 | _,w=>Upd (fun k=>k=A) g w∧qbd .u8 w A r
set_option maxRecDepth 100000 in
set_option maxHeartbeats 1000000 in
theorem qj9(s:ByteArray)(w:World)(hs:s.size≤1000000000)(hT:Tabs w) :
  Calls Tryz.prog 89 #[.string s] w fun e w'=>e = .returned (.agg ((qgs s).map (Value.int .u8)).toArray)∧qu w w':=by
 have hl:(qi5 s).size≤1073741824:=by
  unfold qi5;rw[ByteArray.size_append,strOfNums_size,qo5];have:=qnw s.size;omega
 have K:=fun W=>zeg s W (by omega)
 have J:=fun W h1=>q08 qjw (qi5 s) W rfl qne hl h1
 have F:=fun W=>q5j (qkk ((qi5 s).size / 64) qjw (qi5 s)) W (q3v _ _ _ ⟨rfl,qne⟩).1 (q3v _ _ _ ⟨rfl,qne⟩).2
 have i:=qc4 s
 change ∀W,Calls _ _ _ _ (qbr (.string (qi5 s)) W) at K
 change ∀W,Calls _ _ _ _ (fun e w'=>e = .returned (.agg ((qgs s).map (Value.int .u8)).toArray)∧qu W w') at F
 have HF:=qb (rfl:qgs s=qgs s)
 go_enter Tryz.func89,Tryz.ntmps89
 go_upto_region 1 with fail
 obtain⟨T0,N⟩:∃T,(w.alloc (.cells #[.int .u8 0,.int .u8 0,.int .u8 0,.int .u8 0,.int .u8 0,.int .u8 0,.int .u8 0,.int .u8 0,.int .u8 0,.int .u8 0,.int .u8 0,.int .u8 0,.int .u8 0,.int .u8 0,.int .u8 0,.int .u8 0,.int .u8 0,.int .u8 0,.int .u8 0,.int .u8 0,.int .u8 0,.int .u8 0,.int .u8 0,.int .u8 0,.int .u8 0,.int .u8 0,.int .u8 0,.int .u8 0,.int .u8 0,.int .u8 0,.int .u8 0,.int .u8 0] 33)).heap[w.heap.size]? = some (.cells ((List.replicate 32 0).map (Value.int .u8)).toArray T (0,0)):=⟨_,qi _ _⟩
 have V:qu w (w.alloc (.cells #[.int .u8 0,.int .u8 0,.int .u8 0,.int .u8 0,.int .u8 0,.int .u8 0,.int .u8 0,.int .u8 0,.int .u8 0,.int .u8 0,.int .u8 0,.int .u8 0,.int .u8 0,.int .u8 0,.int .u8 0,.int .u8 0,.int .u8 0,.int .u8 0,.int .u8 0,.int .u8 0,.int .u8 0,.int .u8 0,.int .u8 0,.int .u8 0,.int .u8 0,.int .u8 0,.int .u8 0,.int .u8 0,.int .u8 0,.int .u8 0,.int .u8 0,.int .u8 0] 33)):=(Upd.refl _ _).alloc _
 generalize w.alloc (.cells #[.int .u8 0,.int .u8 0,.int .u8 0,.int .u8 0,.int .u8 0,.int .u8 0,.int .u8 0,.int .u8 0,.int .u8 0,.int .u8 0,.int .u8 0,.int .u8 0,.int .u8 0,.int .u8 0,.int .u8 0,.int .u8 0,.int .u8 0,.int .u8 0,.int .u8 0,.int .u8 0,.int .u8 0,.int .u8 0,.int .u8 0,.int .u8 0,.int .u8 0,.int .u8 0,.int .u8 0,.int .u8 0,.int .u8 0,.int .u8 0,.int .u8 0,.int .u8 0] 33)=o at N V ⊢
 have t:=i
 have X:qbd .u8 o w.heap.size (List.replicate 32 0):=⟨T0,N⟩
 have Y:=qb (hT.new V)
 generalize O:qkk ((qi5 s).size / 64) qjw (qi5 s)=bl at J F
 generalize D:qgs s=m at F i t
 generalize U:qi5 s=ps at K J hl
 have HP:=qb K
 have HB:=qb J
 have HY:=qb F
 have M:=qb D
 have I:=qb i
 have E:=X.stOk (r:=m) (n:=32) (by simpa using t) t
 clear K J F O D U t N hT i HF
 refine qoh (by kernel_rfl) [[],[],[(1,4)],[(0,3),(2,5)],[(3,6)],[(4,7)]] 8 rfl (by kernel_rfl) [(0,3),(1,4),(2,5),(3,6),(4,7)] (by kernel_rfl) [5] (by kernel_rfl) [[(0,0)],[(0,0)],[(0,0)],[(0,0)],[(0,0)],[(0,1)]] (by kernel_rfl)
  (zhp o w.heap.size m) qbs (isV [.agg (qjw.map (Value.int .u32)).toArray,.string s,.string ps,.agg (bl.map (Value.int .u32)).toArray,.agg (m.map (Value.int .u8)).toArray,undef])
  ((Upd.refl _ _).drew) (fun _=>qbs.all _ _) (fun _ _ _ _ _ _ _ _ _ h=>h) ?_ ?_
 ·refine .one rfl ?_ <| .pure rfl (fun _=>qbs.all _ _) rfl ?_ <| .one rfl ?_ <| .one rfl ?_ <| .one rfl ?_ <| .one rfl ?_ <| .nil
  ·intro qk w1 g _;replace g:qu o w1:=g;have t:=((qa Y).new g).row;generalize (qjw.map (Value.int .u32)).toArray=Z at t ⊢;unfold zi;simp only[putL];go_simp;exact⟨qbs.all _ _,g,rfl⟩
  ·intro qk w1 _;unfold zi;simp only[putL];go_simp
   first | exact⟨rfl,rfl⟩ | rfl
  ·rintro qk w1 g ⟨l,-⟩;replace g:qu o w1:=g;replace l:qk 1 = .string s:=l;unfold zi;simp only[putL];go_simp;refine(qa HP w1).mono ?_;rintro e w2 ⟨rfl,H⟩;exact⟨_,rfl,qbs.all _ _,g.trans H,rfl⟩
  ·rintro qk w1 g ⟨l,p1,-⟩;replace g:qu o w1:=g;replace l:qk 0 = .agg (qjw.map (Value.int .u32)).toArray:=l;replace p1:qk 2 = .string ps:=p1;have v:=qb (qa HB w1 ((qa Y).new g));generalize (qjw.map (Value.int .u32)).toArray=Z at l v;unfold zi;simp only[putL];go_simp;refine(qa v).mono ?_;rintro e w2 ⟨rfl,H⟩;exact⟨_,rfl,qbs.all _ _,g.trans H,rfl⟩
  ·rintro qk w1 g ⟨l,-⟩;replace g:qu o w1:=g;replace l:qk 3 = .agg (bl.map (Value.int .u32)).toArray:=l;have v:=qb (qa HY w1);generalize (bl.map (Value.int .u32)).toArray=Z at l v;unfold zi;simp only[putL];go_simp;refine(qa v).mono ?_;rintro e w2 ⟨rfl,H⟩;exact⟨_,rfl,qbs.all _ _,g.trans H,rfl⟩
  ·rintro qk w1 g ⟨l,-⟩;replace g:qu o w1:=g;replace l:qk 4 = .agg (m.map (Value.int .u8)).toArray:=l;have z:=X.upd g (fun h=>h);have E:=z.stOk (r:=m) (n:=32) (by simpa using qa I) (qa I);have C:=qb (z.setAll (r:=m) (by simpa using qa I));have L:=qb ((g.mono (T:=fun k=>k=w.heap.size) (fun _ _ h=>h.elim)).then ((Upd.refl (· = w.heap.size) w1).setCells 0 (m.map (Value.int .u8))) (fun _ _ h=>h));have e0:(m.map (Value.int .u8)).toArray.toList=m.map (Value.int .u8):=rfl;generalize R:(m.map (Value.int .u8)).toArray=cs at l E e0;generalize P:m.map (Value.int .u8)=cl at e0 C L;clear R P z;unfold zi;simp only[putL];go_simp;exact⟨qbs.all _ _,⟨qa L,qa C⟩,rfl⟩
 ·intro qk w1 g hv;clear hv;replace g:Upd (fun k=>k=w.heap.size) o w1∧qbd .u8 w1 w.heap.size m:=g;obtain⟨L,T1,z⟩:=g;simp only[putL];have nE:=V.then L (by intro q hq h;omega);go_wp2_with fail;refine bodyPost_ret (results_cell_row rfl _ _ w.heap.size T1 _ _ _ rfl z Tryz.underlying33 rfl (by rw[List.size_toArray,List.length_map,qa I];exact Tryz.infoHash)) rfl ?_;exact⟨by rw[qa M],nE⟩
end Go.Proofs.YthnohmjbbeahmaaGreatDoor
namespace Go.Proofs.YthnohmjbbeahmaaGreatDoor
open Go.RowKit
def qd8(w:World)(base:Nat)(v:Value)(xs:List Int):Prop :=
 ∃g cap i l,v = .slice (some ⟨g,0,none⟩) xs.length cap∧base≤g∧w.heap[g]? = some (.cells i 5 l)∧(l=(0,0)∨i.size≤l.1)∧xs.length≤cap∧i.size=cap∧i.toList.take xs.length=xs.map (Value.int .u8)
theorem qd8.shape{w:World}{base:Nat}{v:Value}{xs:List Int}(h:qd8 w base v xs):∃a c,v = .slice (some a) xs.length c:=by
 obtain⟨g,cap,i,l,rfl,_⟩:=h;exact⟨_,_,rfl⟩
theorem qd8.ge{w:World}{base:Nat}{v:Value}{xs:List Int}(h:qd8 w base v xs){k:Nat}(i:v.ownBlock=some k):base≤k∧k<w.heap.size:=by
 obtain⟨g,cap,l,q,rfl,m,o,_⟩:=h;simp[Value.ownBlock] at i;subst i;exact⟨m,z6 o⟩
theorem qd8.upd{S:Nat→Prop}{w w':World}{base:Nat}{v:Value}{xs:List Int}(h:qd8 w base v xs)(u:Upd S w w')(q:∀k,v.ownBlock=some k→¬S k):qd8 w' base v xs:=by
 obtain⟨g,cap,i,o,l,m,t,r⟩:=h;exact⟨g,cap,i,o,l,m,u.old t (q g (by rw[l];rfl)),r⟩
theorem qd8.ofO{w:World}{base:Nat}{v:Value}{xs:List Int}(h:qb8 w base v xs)(C:0<xs.length):qd8 w base v xs:=by
 rcases h.2 with ⟨rfl,e⟩ | ⟨g,cap,i,rfl,l,q,m,t,z,o⟩
 ·omega
 ·exact⟨g,cap,i,(0,0),rfl,l,q,.inl rfl,m,by omega,by simpa using o⟩
def qdu(s:ByteArray):List Int:=s.data.toList.map fun c=>(c.toNat:Int)
theorem qmi(s:ByteArray):(qdu s).length=s.size:=by
 unfold qdu;rw[List.length_map,Array.length_toList];rfl
theorem qd8.ofS(w:World)(s:ByteArray)(cap base:Nat)(i:base≤w.heap.size)(l:s.size≤cap) :
  qd8 (w.drew.alloc (.cells (bytesRow s cap) 5 ((bytesRow s cap).size,(bytesRow s cap).size+1))) base (.slice (some ⟨w.heap.size,0,none⟩) s.size cap) (qdu s):=by
 have g:(bytesRow s cap).size=cap:=by
  unfold bytesRow;have:s.data.size=s.size:=rfl;simp;omega
 refine⟨w.heap.size,cap,bytesRow s cap,((bytesRow s cap).size,(bytesRow s cap).size+1),by rw[qmi],i,?_,.inr (Nat.le_refl _),by rw[qmi];exact l,g,?_⟩
 ·exact qi w.drew _
 ·unfold bytesRow qdu;rw[Array.toList_append,List.take_append_of_le_length (by simp)];simp;rw[List.take_of_length_le (by simp)];rfl
theorem qjl{L:Array Oper}{rest:List Oper}{o:Oper}{a:Act}{Q:Exit→Act→World→Prop}(I:o.guard=none)(s x:Operand)
  (ho:o.op = .call {callee:= .builtin .append,args:=#[s,x],argTypes:=#[22,22]})
  (base:Nat) (v:Value) (xs:List Int) (hs:a.eval s=v) (c:Int) (T:TypeId) (w:World) (hx:a.eval x = .slice (some ⟨w.heap.size,0,none⟩) 1 1) (K:qd8 w base v xs) (hl:xs.length≤1073741824) (hb:base≤w.heap.size)
  (h:∀N w',qd8 w' base N (xs++[c])→Upd (fun k=>v.ownBlock=some k) w w'→wpList Tryz.prog L Q rest (a.put o.dst N) w') :
  wpList Tryz.prog L Q (o::rest) a (w.alloc (.cells #[.int .u8 c] T)):=by
 obtain⟨i,hi,X,m,Y⟩:=info_parts Tryz.infoU8
 obtain⟨g,cap,l,O,rfl,e2,hg,M,e3,e4,Z⟩:=K
 have z:(w.alloc (.cells #[.int .u8 c] T)).heap[g]? = some (.cells l 5 O):=zj hg _
 have D:∀j u,[Value.int .u8 c][j]? = some u→(w.alloc (.cells #[.int .u8 c] T)).cell? ((⟨w.heap.size,0,none⟩:Addr).add j)=some u:=by
  intro j u C;have q:(⟨w.heap.size,0,none⟩:Addr).add j=⟨w.heap.size,j,none⟩:=by unfold Addr.add;split<;>simp_all
  rw[q,qh (qi _ _)];simpa using C
 have E:∀u∈[Value.int .u8 c],u.oneCell'=true:=by
  intro u hu;obtain rfl:=List.mem_singleton.1 hu;rfl
 by_cases t:xs.length+1≤cap
 ·refine wpList_append_room_src _ I s x 22 22 ho 5 i Tryz.underlying22 hi g 0 xs.length cap hs _ hx 1 [.int .u8 c] (Src.ofSlice _ Tryz.underlying22 ⟨w.heap.size,0,none⟩ 1 1 _ (by rw[m];rfl) D E) t ?_ ?_ ?_
  ·intro j C;rw[qh z];simp only[List.length_cons,List.length_nil] at C;rw[Array.getElem?_eq_getElem (by rw[m];omega)];rfl
  ·intro j C;simp only[List.length_cons,List.length_nil] at C;have a5:0+xs.length*i.size+j<l.size:=by rw[m];omega
   unfold World.frozen?;rw[z];rcases M with rfl | M
   ·simp
   ·obtain⟨lo,a4⟩:=O;simp only at M ⊢;rw[show decide (lo≤0+xs.length*i.size+j)=false by simpa using by omega];rfl
  ·refine h _ _ ⟨g,cap,l.setIfInBounds xs.length (.int .u8 c),O,by simp,e2,?_,by simpa using M,by simpa using t,by simpa using e4,?_⟩ ?_
   ·have:=z7 z (0+xs.length*i.size) (.int .u8 c);rw[show 0+xs.length*i.size=xs.length by rw[m];omega] at this;simpa [World.setCells,m] using this
   ·rw[List.length_append,List.map_append,Array.toList_setIfInBounds];simp only[List.length_cons,List.length_nil,List.map_cons,List.map_nil,Nat.zero_add];have W:xs.length<l.toList.length:=by
     have h9:l.toList.length=l.size:=Array.length_toList;omega
    rw[List.take_add_one,List.take_set_of_le (Nat.le_refl _),Z,List.getElem?_set_self W];rfl
   ·have u0:Upd (fun k=>(Value.slice (some ⟨g,0,none⟩) xs.length cap).ownBlock=some k) w (w.alloc (.cells #[.int .u8 c] T)):=(Upd.refl _ _).alloc _;simp only[World.setCells];exact u0.setCell (p:=⟨g,0+xs.length*i.size,none⟩) (fun _=>rfl) _
 ·refine wpList_append_grows _ I s x 22 ho 5 i (.int .u8 0) 1 1 Tryz.underlying22 hi X m Y rfl (by decide) (some ⟨g,0,none⟩) xs.length cap (xs.map (Value.int .u8)) hs (fun h=>by cases h) (by simp) ?_ ⟨w.heap.size,0,none⟩ 1 1 [.int .u8 c] hx rfl D E (by omega) (by unfold maxLen;omega) (by omega) ?_
  ·intro b R j u C;obtain rfl:(⟨g,0,none⟩:Addr)=b:=Option.some.inj R;have V:j<xs.length:=by
    have:=(List.getElem?_eq_some_iff.1 C).1;simpa using this
   have q:(⟨g,0,none⟩:Addr).add j=⟨g,j,none⟩:=by unfold Addr.add;split<;>simp_all
   rw[q,qh z,←Array.getElem?_toList];rw[←Z,List.getElem?_take_of_lt V] at C;exact C
  ·intro N w' J U;refine h N w' (qd8.ofO (xs:=xs++[c]) ?_ (by simp)) ((((Upd.refl _ w).alloc _)).grown U (fun k e _=>by cases e));unfold qb8;rw[List.length_append,List.map_append];refine⟨J.1,?_⟩;rcases J.2 with P | ⟨g2,F,H,h1,P,h3⟩
   ·exact .inl P
   ·exact .inr ⟨g2,F,H,h1,by simp at P;omega,h3⟩
theorem qxe{w:World}{base:Nat}{v:Value}{xs:List Int}(h:qd8 w base v xs):(convert 22 9 v).run Tryz.prog w = .ok (.string (strOfNums xs)) w:=by
 obtain⟨g,cap,l,E,rfl,z,t,F,C,D,o⟩:=h;refine run_convert_bytes_arg w 22 5 Tryz.underlying22 Tryz.underlying5 g 0 xs.length cap xs rfl (fun i m=> ?_) 9 Tryz.underlying9;have q:l.toList[i]? = (xs.map (Value.int .u8))[i]? := by rw[←o,List.getElem?_take_of_lt (by omega)]
 rw[Nat.zero_add,qh t i,←Array.getElem?_toList,q,List.getElem?_map,List.getElem?_eq_getElem m];simp[List.getD,List.getElem?_eq_getElem m]
def zhf(n:Nat)(g:Nat):List Int:=(List.range g).map fun k=>(n:Int) / 2 ^ (8*(g-1-k))%256
theorem zbb(n g:Nat):(zhf n g).length=g:=by simp[zhf]
def qea(n g:Nat):ByteArray:=strOfNums (zhf n g)
theorem qhc(n g:Nat):(qea n g).size=g:=by unfold qea;rw[strOfNums_size,zbb]
def Wr(w:World)(g:Nat)(s:ByteArray):Prop:=w.heap[g]? = some (.cells #[.string s] 164 (0,0))
theorem Wr.new{w w':World}{g:Nat}{s:ByteArray}(h:Wr w g s)(n:qu w w'):Wr w' g s:=n.old h (fun h=>h)
theorem Wr.lt{w:World}{g:Nat}{s:ByteArray}(h:Wr w g s):g<w.heap.size:=z6 h
def qhz(w:World)(b:Nat)(ws:List Int):Prop:=∃T,w.heap[b]? = some (.cells (ws.map (Value.int .u8)).toArray T (0,0))
def qwt(n g m:Nat):List Int:=(List.range m).map fun k=>(n:Int) / 2 ^ (8*(g-1-k))%256
set_option maxRecDepth 100000 in
set_option maxHeartbeats 1000000 in
theorem q2l(g n i:Nat)(s:ByteArray)(w:World)(hg:Wr w g s)(b7:1≤i)(b8:i≤8)(hn:n<2 ^ (8*i))(hs:s.size≤1073741824) :
  Calls Tryz.prog 93 #[.pointer (some ⟨g,0,none⟩),.int .u64 n,.int .i64 i] w fun e w'=>e = .returned (.int .i64 0)∧Upd (fun k=>k=g) w w'∧Wr w' g (s++qea n i):=by
 have o:n<18446744073709551616:=Nat.lt_of_lt_of_le hn (by
  have:(2:Nat) ^ (8*i)≤2 ^ 64:=Nat.pow_le_pow_right (by decide) (by omega);exact this)
 have a4:(n:Int) / 2 ^ (8*i)=0:=by
  refine Int.ediv_eq_zero_of_lt (by omega) ?_;exact_mod_cast hn
 have b3:(1:Int)≤i:=by omega
 have b4:(i:Int)≤8:=by omega
 have a7:(8*(i:Int)).toNat=8*i:=by omega
 have H:decide ((i:Int)<1)=false:=by simp;omega
 have X:decide ((8:Int)<(i:Int))=false:=by simp;omega
 have I:¬(i:Int)<1:=by omega
 have F:¬(8:Int)<(i:Int):=by omega
 have z:(n:Int)<18446744073709551616:=by omega
 go_enter Tryz.func93,Tryz.ntmps93
 go_wp2_with fail
 clear a4 a7 H X I F
 have b5:=hg.lt
 go_loopw [7,8] (fun bv iv wr=>∃(m:Nat) (a:Option Addr) (c:Nat),iv = .int .i64 ((i:Int)-1-(m:Int))∧m≤i∧bv = .slice a m c∧Hid (qb8 wr w.heap.size bv (qwt n i m))∧Upd (fun k=>w.heap.size≤k) w wr) (fun _ iv _=>(intOf iv+1).toNat)
 case atStart=>exact⟨0,_,_,by simp,Nat.zero_le _,rfl,qb (qb8.nil _ _),Upd.refl _ _⟩
 case round =>
  obtain⟨m,a,c,rfl,hm,rfl,P,O⟩:=hrel;by_cases H:m<i
  ·have b6:(m:Int)<(i:Int):=by omega
   have hb:=O.size;have ht:(8*((i:Int)-1-(m:Int))).toNat=8*(i-1-m):=by omega
   have Z:∀k:Nat,(n:Int) / 2 ^ k<18446744073709551616∧0≤(n:Int) / 2 ^ k:=fun k=>by
    have Z:(1:Int)≤2 ^ k:=Int.pow_pos (by decide);exact⟨Int.lt_of_le_of_lt (Int.ediv_le_self _ (by omega)) z,Int.ediv_nonneg (by omega) (by omega)⟩
   obtain⟨q1,q0⟩:=Z (8*(i-1-m));have a6:IntKind.u64.wrap ((n:Int) / 2 ^ (8*(i-1-m)))=(n:Int) / 2 ^ (8*(i-1-m)):=by rw[IntKind.wrap_u64];omega
   have a8:=qb (And.intro o z);have K:(qwt n i m).length≤1073741824:=by simp[qwt];omega
   have L:qwt n i (m+1)=qwt n i m++[(n:Int) / 2 ^ (8*(i-1-m))%256]:=by unfold qwt;rw[List.range_succ,List.map_append];rfl
   have t:(qwt n i (m+1)).length=m+1:=by simp[qwt]
   have C:=qb L;have V:=qb t;have Y:0≤(i:Int)-1-(m:Int):=by omega
   clear Z L t q1 o z;go_wp2_with (at_builtin;refine qks rfl (.tmp 28) (.tmp 34) rfl w.heap.size _ _ rfl _ _ _ rfl (qa P) K hb ?_);intro v' w5 l u5;have u6:=O.then u5 (fun q _ h=>((qa P).ge h).1);rw[←qa C] at l;obtain⟨a5,c5,rfl⟩:=l.shape;rw[qa V] at l ⊢;have U:=qb l;clear l u5 P C q0 K ht Y a6;go_wp2;go_roundw
   case rel=>exact⟨m+1,a5,c5,by congr 1;omega,by omega,rfl,U,u6⟩
   case measure=>simp[intOf];omega
  ·obtain rfl:m=i:=by omega
   rw[show (m:Int)-1-(m:Int) = -1 by omega];have N:=qlg (((qa P).upd ((Upd.refl (fun _=>False) wr).drew) (fun _ _ h=>h)));have v:=O.old hg (fun h=>by omega);have c0:=qh v 0;have z0:=qv v 0;simp at c0;have J:strOfNums (qwt n m m)=qea n m:=rfl;rw[J] at N;have hq:=qhc n m;generalize M:qea n m=q at N hq ⊢;have W:=qb M;clear M;have D:=z7 v 0 (.string (s++q));have nW:qu w wr:=Upd.of_below (O.below' (Nat.le_refl _) (fun _ h=>h)) (Nat.le_refl _);have uW:Upd (fun k=>k=g) w (wr.setCell ⟨g,0,none⟩ (.string (s++q))):=(nW.mono (T:=fun k=>k=g) (fun _ _ h=>h.elim)).set1 0 _;have R:=qb D;clear D nW O;clear J;have a9:¬9223372036854775807<s.size+m:=by omega
   go_wp2_with fail;go_region_law (fail)
   all_goals
    have E:=qa R;generalize wr.setCell ⟨g,0,none⟩ (.string (s++q))=wS at E uW ⊢;go_wp2;go_ret;exact⟨rfl,uW.drew,by rw[qa W];exact E⟩
theorem qhz.drew{w:World}{b:Nat}{ws:List Int}(h:qhz w b ws):qhz w.drew b ws:=h
theorem qef{w:World}{b:Nat}{xs:List Int}(h:qhz w b xs)(n:Nat)(g:xs.length=n):(convert 22 9 (.slice (some ⟨b,0,none⟩) n n)).run Tryz.prog w = .ok (.string (strOfNums xs)) w:=by
 obtain⟨T,h⟩:=h;exact qe6 w 22 9 5 Tryz.underlying22 Tryz.underlying5 Tryz.underlying9 b n xs T (0,0) n g h
set_option maxRecDepth 100000 in
set_option maxHeartbeats 1000000 in
theorem q93(g:Nat)(h:List Int)(s:ByteArray)(w:World)(E:Wr w g s)(F:h.length=32)(N:s.size≤1073741824) :
  Calls Tryz.prog 95 #[.pointer (some ⟨g,0,none⟩),.agg (h.map (Value.int .u8)).toArray] w fun e w'=>e = .returned (.tuple #[])∧Upd (fun k=>k=g) w w'∧Wr w' g (s++strOfNums h):=by
 have M:(strOfNums h).size=32:=by rw[strOfNums_size,F]
 generalize o:(h.map (Value.int .u8)).toArray=hv
 go_enter Tryz.func95,Tryz.ntmps95
 go_upto_region 1 with fail
 have D:qhz (w.alloc (.cells hv 33)) w.heap.size h:=⟨_,by rw[o];exact qi _ _⟩
 have v:qu w (w.alloc (.cells hv 33)):=(Upd.refl _ _).alloc _
 have L:=E.lt
 have i:=E.new v
 generalize w.alloc (.cells hv 33)=w1 at D v i ⊢
 have H:=qef (D.drew) 32 F
 have K:=qh i 0
 have P:=qv i 0
 simp at K
 generalize t:strOfNums h=q at H M
 have C:=qb t
 have l:=z7 i 0 (.string (s++q))
 have J:Upd (fun k=>k=g) w (w1.setCell ⟨g,0,none⟩ (.string (s++q))):=(v.mono (T:=fun k=>k=g) (fun _ _ h=>h.elim)).set1 0 _
 have z:=qb l
 have I:¬9223372036854775807<s.size+32:=by omega
 clear t l v D o i E F
 go_region_law (fail)
 all_goals
  have m:=qa z;generalize w1.setCell ⟨g,0,none⟩ (.string (s++q))=O at m J ⊢;go_end0;exact⟨rfl,J.drew,by rw[qa C];exact m⟩
set_option maxHeartbeats 1000000 in
theorem q1d(g:Nat)(s:ByteArray)(w:World)(i:Wr w g s) :
  Calls Tryz.prog 96 #[.pointer (some ⟨g,0,none⟩)] w fun e w'=>e = .returned (.string s)∧w=w':=by
 have l:=qh i 0
 simp at l
 clear i
 go_enter Tryz.func96,Tryz.ntmps96
 go_wp2
 go_ret
 exact⟨rfl,rfl⟩
end Go.Proofs.YthnohmjbbeahmaaGreatDoor
