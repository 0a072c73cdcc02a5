/-
  Package digest: tail, Pad, Sum.
-/
import Derived.Test.YthnohmjbbeahmaaGreatDoorMbc
import Derived.Outline
import Derived.Test.YthnohmjbbeahmaaGreatDoorMaa
import Derived.Lib.JoinLaws
import Derived.ArgAppend
import Derived.Laws.IdiomStrings
import Derived.Laws.BitsAllLaws
import Derived.Laws.Bits64
import Derived.IntWalk
import Derived.Deep.CutRange
import Derived.BigRegion
import Derived.Deep.RegionLaw
set_option linter.unusedVariables false
set_option linter.unusedSimpArgs false
namespace Go.Proofs.YthnohmjbbeahmaaGreatDoor
open Go.RowKit
def qd2(n:Nat):Nat:=(119-n%64)%64
theorem qop(n:Nat):qd2 n<64:=Nat.mod_lt _ (by decide)
theorem zga(n k:Nat)(h:k<qd2 n):(n+(k+1)+8)%64≠0:=by unfold qd2 at h;omega
theorem q58(n:Nat):(n+(qd2 n+1)+8)%64=0:=by unfold qd2;omega
def qlu(n i:Nat):Int:=(8*n:Int) / 2 ^ (56-8*i)%256
def qqp(n:Nat):List Int:=(128::List.replicate (qd2 n) 0)++(List.range 8).map (qlu n)
theorem qpp(n:Nat):(qqp n).length=qd2 n+9:=by simp[qqp]
set_option maxRecDepth 100000 in
set_option maxHeartbeats 1000000 in
theorem zeh(n:Nat)(w:World)(X:n≤1073741824) :
  Calls Tryz.prog 133 #[.int .u64 n] w (qbf (.string (strOfNums (qqp n))) w):=by
 have Y:=qop n
 go_enter Tryz.func133,Tryz.ntmps133
 go_wp2_with fail
 have F:=qb9.made w w.heap.size [128] (Nat.le_refl _) (by decide)
 have N:Upd (fun k=>w.heap.size≤k) w (w.alloc (.cells #[.int .u8 128] 5)):=(Upd.refl _ _).alloc _
 simp only[List.map_cons,List.map_nil,List.length_cons,List.length_nil,Nat.zero_add] at F
 generalize w.alloc (.cells #[.int .u8 128] 5)=wa at F N ⊢
 have m:=qb F
 clear F
 go_loopw [3] (fun v wr=>∃(k:Nat) (a:Option Addr) (c:Nat),v = .slice a (k+1) c∧k≤qd2 n∧Hid (qb9 wr w.heap.size v (128::List.replicate k 0))∧Upd (fun k=>w.heap.size≤k) w wr) (fun v _=>100-(match v with | .slice _ l _=>l | _=>0))
 case atStart=>exact⟨0,_,_,rfl,Nat.zero_le _,m,N⟩
 case round =>
  obtain⟨k,a,c,rfl,W,m,y⟩:=hrel;by_cases D:k<qd2 n
  ·have x:=zga n k D;have P:((((n:Int)+((k:Int)+1))+8)%64 != 0)=true:=by rw[bne_iff_ne];omega
   have I:(k:Int)<64:=by omega
   have J:(n:Int)≤1073741824:=by omega
   have H:=y.size;clear x;go_wp2_with (at_builtin;refine qlc rfl (.tmp 14) (.tmp 15) rfl w.heap.size _ _ rfl 0 _ _ rfl (qa m) (by simp;omega) H ?_);intro U M g E;have L:=y.then E (fun q _ h=>((qa m).ge h).1);obtain⟨z,C,rfl⟩:=g.shape;replace g:qb9 M w.heap.size (Value.slice z (128::(List.replicate k (0:Int)++[0])).length C) (128::(List.replicate k 0++[0])):=g;rw[←List.replicate_succ'] at g;simp only[List.length_append,List.length_cons,List.length_replicate,List.length_nil,Nat.zero_add] at g ⊢;have t:=qb g;clear g E m;go_wp2;go_roundw
   case rel=>exact⟨k+1,z,C,rfl,by omega,t,L⟩
   case measure=>simp;omega
  ·obtain rfl:k=qd2 n:=by omega
   have x:=q58 n;have P:((((n:Int)+((qd2 n:Int)+1))+8)%64 != 0)=false:=by rw[bne_eq_false_iff_eq];omega
   have I:(qd2 n:Int)<64:=by omega
   have J:(n:Int)≤1073741824:=by omega
   obtain⟨O,rfl⟩:∃O:World,O=wr:=⟨_,rfl⟩;clear x;go_wp2_with fail
   go_loopw [3,4,17] (fun v _ K wr=>∃(i:Nat) (a:Option Addr) (c:Nat),K = .int .i64 (i:Int)∧i≤8∧v = .slice a (qd2 n+1+i) c∧Hid (qb9 wr w.heap.size v ((128::List.replicate (qd2 n) 0)++(List.range i).map (qlu n)))∧Upd (fun k=>w.heap.size≤k) w wr) (fun _ _ K _=>8-(intOf K).toNat)
   case atStart=>exact⟨0,_,_,rfl,by omega,rfl,by simpa using m,y⟩
   case round =>
    obtain⟨i,a,c,rfl,V,rfl,m,y⟩:=hrel;by_cases D:i<8
    ·have R:(i:Int)<8:=by omega
     have H:=y.size;go_wp2_with (at_builtin;refine qlc rfl (.tmp 20) (.tmp 28) rfl w.heap.size _ _ rfl _ _ _ rfl (qa m) (by simp;omega) H ?_);intro U M g E;have L:=y.then E (fun q _ h=>((qa m).ge h).1);obtain⟨z,C,rfl⟩:=g.shape;have o:(128::(List.replicate (qd2 n) (0:Int)++((List.range i).map (qlu n)++[8*(n:Int) / 2 ^ (56-8*i)%256]))).length=qd2 n+1+(i+1):=by simp;omega
     rw[o] at g ⊢;replace g:qb9 M w.heap.size (.slice z (qd2 n+1+(i+1)) C) ((128::List.replicate (qd2 n) 0)++(List.range (i+1)).map (qlu n)):=by
      rw[List.range_succ,List.map_append,←List.append_assoc];have e:(128::List.replicate (qd2 n) (0:Int))++(List.range i).map (qlu n)++[qlu n i]=128::(List.replicate (qd2 n) 0++((List.range i).map (qlu n)++[8*(n:Int) / 2 ^ (56-8*i)%256])):=by simp[qlu]
      exact e▸g
     clear o;have t:=qb g;clear g E m;go_wp2;go_roundw
     case rel=>exact⟨i+1,z,C,by go_num,by omega,rfl,t,L⟩
     case measure=>simp[intOf];omega
    ·obtain rfl:i=8:=by omega
     rw[show ((8:Nat):Int)=8 from rfl];have T:=ql1 (qa m);go_wp2;go_ret;exact⟨rfl,y.below' (Nat.le_refl _) (fun _ h=>h) |> fun h=>Upd.of_below h (Nat.le_refl _)⟩
set_option maxHeartbeats 1000000 in
theorem zgb(s:ByteArray)(w:World)(o:s.size≤1073741824) :
  Calls Tryz.prog 114 #[.string s] w (qbf (.string (s++strOfNums (qqp s.size))) w):=by
 have m:(s.size:Int)≤1073741824:=by omega
 have q:=qop s.size
 have g:(strOfNums (qqp s.size)).size=qd2 s.size+9:=by rw[strOfNums_size,qpp]
 generalize qd2 s.size=z at q g
 go_enter Tryz.func114,Tryz.ntmps114
 go_wp2_with fail
 refine(zeh s.size w o).mono ?_
 rintro e w1 ⟨rfl,v⟩
 generalize i:strOfNums (qqp s.size)=t at g ⊢
 have l:=qb i
 clear i
 go_wp2
 go_ret
 exact⟨by rw[qa l];rfl,v⟩
theorem quk{w:World}{b n:Nat}{A:Array Value}(v:0<n)(t:A.size=n)(h:∀j,j<n→w.cell? ⟨b,j,none⟩=A[j]?):zu w b 0 n=some A:=by
 have g:=h (n-1) (by omega);rw[Array.getElem?_eq_getElem (by omega)] at g;unfold zu;unfold World.cell? at h g;cases l:w.heap[b]? with
 | none=>rw[l] at g;cases g
 | some o =>
  simp only[l] at h g;cases o with
  | cells C T q =>
   simp only at h g ⊢;have x:=(Array.getElem?_eq_some_iff.1 g).1;rw[if_pos (by omega)];congr 1;refine Array.ext_getElem? fun i=> ?_
   rw[Array.getElem?_extract];by_cases m:i<n
   ·rw[if_pos (by omega),Nat.zero_add];exact h i m
   ·rw[if_neg (by omega),Array.getElem?_eq_none (by omega)]
  | _=>cases g
theorem Tabs.row{w:World}(h:Tabs w):zu w 1 0 8=some (qkc.map (Value.int .u32)).toArray:=by
 refine quk (by decide) rfl fun j g=> ?_
 rw[h.start j g]
 match j,g with
 | 0,_=>rfl
 | 1,_=>rfl
 | 2,_=>rfl
 | 3,_=>rfl
 | 4,_=>rfl
 | 5,_=>rfl
 | 6,_=>rfl
 | 7,_=>rfl
theorem qn8:qf5 qkc:=by unfold qf5 qkc;decide
def qjm(s:ByteArray):ByteArray:=s++strOfNums (qqp s.size)
def qgw(s:ByteArray):List Int:=qhv (qk4 ((qjm s).size / 64) qkc (qjm s)) 32
theorem qc9(s:ByteArray):(qgw s).length=32:=qi7 _ _
def zg8(x:Value):Sem Value:=Instr.loadAt 33 x
theorem qls(x:Value):Instr.loadAt 33 x=zg8 x:=rfl
theorem q3o(b o:Nat)(w:World):(zg8 (.pointer (some ⟨b,o,none⟩))).run Tryz.prog w=match zu w b o 32 with | some A=> .ok (.agg A) w | none=>qdz Tryz.prog 33 w b o :=
 z6 33 32 _ Tryz.underlying33 rfl Tryz.infoHash b o w
def zhj(x v:Value):Sem Unit:=Instr.storeAt 33 x v
theorem ql8(x v:Value):Instr.storeAt 33 x v=zhj x v:=rfl
theorem q4s(b o:Nat)(A:Array Value)(w:World):(zhj (.pointer (some ⟨b,o,none⟩)) (.agg A)).run Tryz.prog w=if stOk w b o 32 A=true then .ok () (w.setCells b o A.toList) else qfn Tryz.prog 33 w b o A :=
 qat 33 32 Tryz.infoHash b o A w
attribute [local go_sem ↓ high] qsx qts qls ql8
attribute [local go_sem] zhg zhs q3o q4s
def zjc(g:World)(A:Nat)(r:List Int):Nat→World→Prop
 | 0,w=>qq g w
 | _,w=>Upd (fun k=>k=A) g w∧qbg .u8 w A r
set_option maxRecDepth 100000 in
set_option maxHeartbeats 1000000 in
theorem qks(s:ByteArray)(w:World)(hs:s.size≤1000000000)(Z:Tabs w) :
  Calls Tryz.prog 89 #[.string s] w fun e w'=>e = .returned (.agg ((qgw s).map (Value.int .u8)).toArray)∧qq w w':=by
 have hl:(qjm s).size≤1073741824:=by
  unfold qjm;rw[ByteArray.size_append,strOfNums_size,qpp];have:=qop s.size;omega
 have I:=fun W=>zgb s W (by omega)
 have H:=fun W h1=>q2n qkc (qjm s) W rfl qn8 hl h1
 have D:=fun W=>q62 (qk4 ((qjm s).size / 64) qkc (qjm s)) W (q48 _ _ _ ⟨rfl,qn8⟩).1 (q48 _ _ _ ⟨rfl,qn8⟩).2
 have i:=qc9 s
 change ∀W,Calls _ _ _ _ (qbf (.string (qjm s)) W) at I
 change ∀W,Calls _ _ _ _ (fun e w'=>e = .returned (.agg ((qgw s).map (Value.int .u8)).toArray)∧qq W w') at D
 have HF:=qb (rfl:qgw s=qgw s)
 go_enter Tryz.func89,Tryz.ntmps89
 go_upto_region 1 with fail
 obtain⟨T0,L⟩:∃T,(w.alloc (.cells #[.int .u8 0,.int .u8 0,.int .u8 0,.int .u8 0,.int .u8 0,.int .u8 0,.int .u8 0,.int .u8 0,.int .u8 0,.int .u8 0,.int .u8 0,.int .u8 0,.int .u8 0,.int .u8 0,.int .u8 0,.int .u8 0,.int .u8 0,.int .u8 0,.int .u8 0,.int .u8 0,.int .u8 0,.int .u8 0,.int .u8 0,.int .u8 0,.int .u8 0,.int .u8 0,.int .u8 0,.int .u8 0,.int .u8 0,.int .u8 0,.int .u8 0,.int .u8 0] 33)).heap[w.heap.size]? = some (.cells ((List.replicate 32 0).map (Value.int .u8)).toArray T (0,0)):=⟨_,qi _ _⟩
 have R:qq w (w.alloc (.cells #[.int .u8 0,.int .u8 0,.int .u8 0,.int .u8 0,.int .u8 0,.int .u8 0,.int .u8 0,.int .u8 0,.int .u8 0,.int .u8 0,.int .u8 0,.int .u8 0,.int .u8 0,.int .u8 0,.int .u8 0,.int .u8 0,.int .u8 0,.int .u8 0,.int .u8 0,.int .u8 0,.int .u8 0,.int .u8 0,.int .u8 0,.int .u8 0,.int .u8 0,.int .u8 0,.int .u8 0,.int .u8 0,.int .u8 0,.int .u8 0,.int .u8 0,.int .u8 0] 33)):=(Upd.refl _ _).alloc _
 generalize w.alloc (.cells #[.int .u8 0,.int .u8 0,.int .u8 0,.int .u8 0,.int .u8 0,.int .u8 0,.int .u8 0,.int .u8 0,.int .u8 0,.int .u8 0,.int .u8 0,.int .u8 0,.int .u8 0,.int .u8 0,.int .u8 0,.int .u8 0,.int .u8 0,.int .u8 0,.int .u8 0,.int .u8 0,.int .u8 0,.int .u8 0,.int .u8 0,.int .u8 0,.int .u8 0,.int .u8 0,.int .u8 0,.int .u8 0,.int .u8 0,.int .u8 0,.int .u8 0,.int .u8 0] 33)=o at L R ⊢
 have t:=i
 have U:qbg .u8 o w.heap.size (List.replicate 32 0):=⟨T0,L⟩
 have V:=qb (Z.new R)
 generalize M:qk4 ((qjm s).size / 64) qkc (qjm s)=bl at H D
 generalize z:qgw s=m at D i t
 generalize P:qjm s=ps at I H hl
 have HP:=qb I
 have HB:=qb H
 have HY:=qb D
 have K:=qb z
 have F:=qb i
 have C:=U.stOk (r:=m) (n:=32) (by simpa using t) t
 clear I H D M z P t L Z i HF
 refine qo8 (by kernel_rfl) [[],[],[(1,4)],[(0,3),(2,5)],[(3,6)],[(4,7)]] 8 rfl (by kernel_rfl) [(0,3),(1,4),(2,5),(3,6),(4,7)] (by kernel_rfl) [5] (by kernel_rfl) [[(0,0)],[(0,0)],[(0,0)],[(0,0)],[(0,0)],[(0,1)]] (by kernel_rfl)
  (zjc o w.heap.size m) qbt (isV [.agg (qkc.map (Value.int .u32)).toArray,.string s,.string ps,.agg (bl.map (Value.int .u32)).toArray,.agg (m.map (Value.int .u8)).toArray,undef])
  ((Upd.refl _ _).drew) (fun _=>qbt.all _ _) (fun _ _ _ _ _ _ _ _ _ h=>h) ?_ ?_
 ·refine .one rfl ?_ <| .pure rfl (fun _=>qbt.all _ _) rfl ?_ <| .one rfl ?_ <| .one rfl ?_ <| .one rfl ?_ <| .one rfl ?_ <| .nil
  ·intro qm w1 g _;replace g:qq o w1:=g;have t:=((qa V).new g).row;generalize (qkc.map (Value.int .u32)).toArray=Y at t ⊢;unfold zq;simp only[putL];go_simp;exact⟨qbt.all _ _,g,rfl⟩
  ·intro qm w1 _;unfold zq;simp only[putL];go_simp
   first | exact⟨rfl,rfl⟩ | rfl
  ·rintro qm w1 g ⟨l,-⟩;replace g:qq o w1:=g;replace l:qm 1 = .string s:=l;unfold zq;simp only[putL];go_simp;refine(qa HP w1).mono ?_;rintro e w2 ⟨rfl,E⟩;exact⟨_,rfl,qbt.all _ _,g.trans E,rfl⟩
  ·rintro qm w1 g ⟨l,p1,-⟩;replace g:qq o w1:=g;replace l:qm 0 = .agg (qkc.map (Value.int .u32)).toArray:=l;replace p1:qm 2 = .string ps:=p1;have v:=qb (qa HB w1 ((qa V).new g));generalize (qkc.map (Value.int .u32)).toArray=Y at l v;unfold zq;simp only[putL];go_simp;refine(qa v).mono ?_;rintro e w2 ⟨rfl,E⟩;exact⟨_,rfl,qbt.all _ _,g.trans E,rfl⟩
  ·rintro qm w1 g ⟨l,-⟩;replace g:qq o w1:=g;replace l:qm 3 = .agg (bl.map (Value.int .u32)).toArray:=l;have v:=qb (qa HY w1);generalize (bl.map (Value.int .u32)).toArray=Y at l v;unfold zq;simp only[putL];go_simp;refine(qa v).mono ?_;rintro e w2 ⟨rfl,E⟩;exact⟨_,rfl,qbt.all _ _,g.trans E,rfl⟩
  ·rintro qm w1 g ⟨l,-⟩;replace g:qq o w1:=g;replace l:qm 4 = .agg (m.map (Value.int .u8)).toArray:=l;have x:=U.upd g (fun h=>h);have C:=x.stOk (r:=m) (n:=32) (by simpa using qa F) (qa F);have y:=qb (x.setAll (r:=m) (by simpa using qa F));have J:=qb ((g.mono (T:=fun k=>k=w.heap.size) (fun _ _ h=>h.elim)).then ((Upd.refl (· = w.heap.size) w1).setCells 0 (m.map (Value.int .u8))) (fun _ _ h=>h));have X:(m.map (Value.int .u8)).toArray.toList=m.map (Value.int .u8):=rfl;generalize O:(m.map (Value.int .u8)).toArray=cs at l C X;generalize N:m.map (Value.int .u8)=cl at X y J;clear O N x;unfold zq;simp only[putL];go_simp;exact⟨qbt.all _ _,⟨qa J,qa y⟩,rfl⟩
 ·intro qm w1 g hv;clear hv;replace g:Upd (fun k=>k=w.heap.size) o w1∧qbg .u8 w1 w.heap.size m:=g;obtain⟨J,T1,x⟩:=g;simp only[putL];have nE:=R.then J (by intro q hq h;omega);go_wp2_with fail;refine bodyPost_ret (results_cell_row rfl _ _ w.heap.size T1 _ _ _ rfl x Tryz.underlying33 rfl (by rw[List.size_toArray,List.length_map,qa F];exact Tryz.infoHash)) rfl ?_;exact⟨by rw[qa K],nE⟩
end Go.Proofs.YthnohmjbbeahmaaGreatDoor
namespace Go.Proofs.YthnohmjbbeahmaaGreatDoor
open Go.RowKit
def qd7(w:World)(base:Nat)(v:Value)(xs:List Int):Prop :=
 ∃g cap i l,v = .slice (some ⟨g,0,none⟩) xs.length cap∧base≤g∧w.heap[g]? = some (.cells i 5 l)∧(l=(0,0)∨i.size≤l.1)∧xs.length≤cap∧i.size=cap∧i.toList.take xs.length=xs.map (Value.int .u8)
theorem qd7.shape{w:World}{base:Nat}{v:Value}{xs:List Int}(h:qd7 w base v xs):∃a c,v = .slice (some a) xs.length c:=by
 obtain⟨g,cap,i,l,rfl,_⟩:=h;exact⟨_,_,rfl⟩
theorem qd7.ge{w:World}{base:Nat}{v:Value}{xs:List Int}(h:qd7 w base v xs){k:Nat}(i:v.ownBlock=some k):base≤k∧k<w.heap.size:=by
 obtain⟨g,cap,l,q,rfl,m,o,_⟩:=h;simp[Value.ownBlock] at i;subst i;exact⟨m,qad o⟩
theorem qd7.upd{S:Nat→Prop}{w w':World}{base:Nat}{v:Value}{xs:List Int}(h:qd7 w base v xs)(u:Upd S w w')(q:∀k,v.ownBlock=some k→¬S k):qd7 w' base v xs:=by
 obtain⟨g,cap,i,o,l,m,t,r⟩:=h;exact⟨g,cap,i,o,l,m,u.old t (q g (by rw[l];rfl)),r⟩
theorem qd7.ofO{w:World}{base:Nat}{v:Value}{xs:List Int}(h:qb9 w base v xs)(y:0<xs.length):qd7 w base v xs:=by
 rcases h.2 with ⟨rfl,e⟩ | ⟨g,cap,i,rfl,l,q,m,t,x,o⟩
 ·omega
 ·exact⟨g,cap,i,(0,0),rfl,l,q,.inl rfl,m,by omega,by simpa using o⟩
def qdt(s:ByteArray):List Int:=s.data.toList.map fun c=>(c.toNat:Int)
theorem qm7(s:ByteArray):(qdt s).length=s.size:=by
 unfold qdt;rw[List.length_map,Array.length_toList];rfl
theorem qd7.ofS(w:World)(s:ByteArray)(cap base:Nat)(i:base≤w.heap.size)(l:s.size≤cap) :
  qd7 (w.drew.alloc (.cells (bytesRow s cap) 5 ((bytesRow s cap).size,(bytesRow s cap).size+1))) base (.slice (some ⟨w.heap.size,0,none⟩) s.size cap) (qdt s):=by
 have g:(bytesRow s cap).size=cap:=by
  unfold bytesRow;have:s.data.size=s.size:=rfl;simp;omega
 refine⟨w.heap.size,cap,bytesRow s cap,((bytesRow s cap).size,(bytesRow s cap).size+1),by rw[qm7],i,?_,.inr (Nat.le_refl _),by rw[qm7];exact l,g,?_⟩
 ·exact qi w.drew _
 ·unfold bytesRow qdt;rw[Array.toList_append,List.take_append_of_le_length (by simp)];simp;rw[List.take_of_length_le (by simp)];rfl
theorem qj2{K:Array Oper}{rest:List Oper}{o:Oper}{a:Act}{Q:Exit→Act→World→Prop}(H:o.guard=none)(s x:Operand)
  (ho:o.op = .call {callee:= .builtin .append,args:=#[s,x],argTypes:=#[22,22]})
  (base:Nat) (v:Value) (xs:List Int) (hs:a.eval s=v) (c:Int) (T:TypeId) (w:World) (hx:a.eval x = .slice (some ⟨w.heap.size,0,none⟩) 1 1) (J:qd7 w base v xs) (hl:xs.length≤1073741824) (hb:base≤w.heap.size)
  (h:∀M w',qd7 w' base M (xs++[c])→Upd (fun k=>v.ownBlock=some k) w w'→wpList Tryz.prog K Q rest (a.put o.dst M) w') :
  wpList Tryz.prog K Q (o::rest) a (w.alloc (.cells #[.int .u8 c] T)):=by
 obtain⟨i,Z,W,m,X⟩:=info_parts Tryz.infoU8
 obtain⟨g,cap,l,N,rfl,e2,hg,L,e3,e4,Y⟩:=J
 have y:(w.alloc (.cells #[.int .u8 c] T)).heap[g]? = some (.cells l 5 N):=zr hg _
 have C:∀j u,[Value.int .u8 c][j]? = some u→(w.alloc (.cells #[.int .u8 c] T)).cell? ((⟨w.heap.size,0,none⟩:Addr).add j)=some u:=by
  intro j u z;have q:(⟨w.heap.size,0,none⟩:Addr).add j=⟨w.heap.size,j,none⟩:=by unfold Addr.add;split<;>simp_all
  rw[q,qh (qi _ _)];simpa using z
 have D:∀u∈[Value.int .u8 c],u.oneCell'=true:=by
  intro u hu;obtain rfl:=List.mem_singleton.1 hu;rfl
 by_cases t:xs.length+1≤cap
 ·refine wpList_append_room_src _ H s x 22 22 ho 5 i Tryz.underlying22 Z g 0 xs.length cap hs _ hx 1 [.int .u8 c] (Src.ofSlice _ Tryz.underlying22 ⟨w.heap.size,0,none⟩ 1 1 _ (by rw[m];rfl) C D) t ?_ ?_ ?_
  ·intro j z;rw[qh y];simp only[List.length_cons,List.length_nil] at z;rw[Array.getElem?_eq_getElem (by rw[m];omega)];rfl
  ·intro j z;simp only[List.length_cons,List.length_nil] at z;have a5:0+xs.length*i.size+j<l.size:=by rw[m];omega
   unfold World.frozen?;rw[y];rcases L with rfl | L
   ·simp
   ·obtain⟨lo,a4⟩:=N;simp only at L ⊢;rw[show decide (lo≤0+xs.length*i.size+j)=false by simpa using by omega];rfl
  ·refine h _ _ ⟨g,cap,l.setIfInBounds xs.length (.int .u8 c),N,by simp,e2,?_,by simpa using L,by simpa using t,by simpa using e4,?_⟩ ?_
   ·have:=qah y (0+xs.length*i.size) (.int .u8 c);rw[show 0+xs.length*i.size=xs.length by rw[m];omega] at this;simpa [World.setCells,m] using this
   ·rw[List.length_append,List.map_append,Array.toList_setIfInBounds];simp only[List.length_cons,List.length_nil,List.map_cons,List.map_nil,Nat.zero_add];have V:xs.length<l.toList.length:=by
     have h9:l.toList.length=l.size:=Array.length_toList;omega
    rw[List.take_add_one,List.take_set_of_le (Nat.le_refl _),Y,List.getElem?_set_self V];rfl
   ·have u0:Upd (fun k=>(Value.slice (some ⟨g,0,none⟩) xs.length cap).ownBlock=some k) w (w.alloc (.cells #[.int .u8 c] T)):=(Upd.refl _ _).alloc _;simp only[World.setCells];exact u0.setCell (p:=⟨g,0+xs.length*i.size,none⟩) (fun _=>rfl) _
 ·refine wpList_append_grows _ H s x 22 ho 5 i (.int .u8 0) 1 1 Tryz.underlying22 Z W m X rfl (by decide) (some ⟨g,0,none⟩) xs.length cap (xs.map (Value.int .u8)) hs (fun h=>by cases h) (by simp) ?_ ⟨w.heap.size,0,none⟩ 1 1 [.int .u8 c] hx rfl C D (by omega) (by unfold maxLen;omega) (by omega) ?_
  ·intro b P j u z;obtain rfl:(⟨g,0,none⟩:Addr)=b:=Option.some.inj P;have U:j<xs.length:=by
    have:=(List.getElem?_eq_some_iff.1 z).1;simpa using this
   have q:(⟨g,0,none⟩:Addr).add j=⟨g,j,none⟩:=by unfold Addr.add;split<;>simp_all
   rw[q,qh y,←Array.getElem?_toList];rw[←Y,List.getElem?_take_of_lt U] at z;exact z
  ·intro M w' I R;refine h M w' (qd7.ofO (xs:=xs++[c]) ?_ (by simp)) ((((Upd.refl _ w).alloc _)).grown R (fun k e _=>by cases e));unfold qb9;rw[List.length_append,List.map_append];refine⟨I.1,?_⟩;rcases I.2 with O | ⟨g2,E,F,h1,O,h3⟩
   ·exact .inl O
   ·exact .inr ⟨g2,E,F,h1,by simp at O;omega,h3⟩
theorem qym{w:World}{base:Nat}{v:Value}{xs:List Int}(h:qd7 w base v xs):(convert 22 9 v).run Tryz.prog w = .ok (.string (strOfNums xs)) w:=by
 obtain⟨g,cap,l,C,rfl,x,t,D,y,z,o⟩:=h;refine run_convert_bytes_arg w 22 5 Tryz.underlying22 Tryz.underlying5 g 0 xs.length cap xs rfl (fun i m=> ?_) 9 Tryz.underlying9;have q:l.toList[i]? = (xs.map (Value.int .u8))[i]? := by rw[←o,List.getElem?_take_of_lt (by omega)]
 rw[Nat.zero_add,qh t i,←Array.getElem?_toList,q,List.getElem?_map,List.getElem?_eq_getElem m];simp[List.getD,List.getElem?_eq_getElem m]
def zi2(n:Nat)(g:Nat):List Int:=(List.range g).map fun k=>(n:Int) / 2 ^ (8*(g-1-k))%256
theorem zcz(n g:Nat):(zi2 n g).length=g:=by simp[zi2]
def qea(n g:Nat):ByteArray:=strOfNums (zi2 n g)
theorem qho(n g:Nat):(qea n g).size=g:=by unfold qea;rw[strOfNums_size,zcz]
def Wr(w:World)(g:Nat)(s:ByteArray):Prop:=w.heap[g]? = some (.cells #[.string s] 164 (0,0))
theorem Wr.new{w w':World}{g:Nat}{s:ByteArray}(h:Wr w g s)(n:qq w w'):Wr w' g s:=n.old h (fun h=>h)
theorem Wr.lt{w:World}{g:Nat}{s:ByteArray}(h:Wr w g s):g<w.heap.size:=qad h
def qig(w:World)(b:Nat)(ws:List Int):Prop:=∃T,w.heap[b]? = some (.cells (ws.map (Value.int .u8)).toArray T (0,0))
def qx5(n g m:Nat):List Int:=(List.range m).map fun k=>(n:Int) / 2 ^ (8*(g-1-k))%256
set_option maxRecDepth 100000 in
set_option maxHeartbeats 1000000 in
theorem q3z(g n i:Nat)(s:ByteArray)(w:World)(hg:Wr w g s)(b5:1≤i)(b6:i≤8)(hn:n<2 ^ (8*i))(hs:s.size≤1073741824) :
  Calls Tryz.prog 93 #[.pointer (some ⟨g,0,none⟩),.int .u64 n,.int .i64 i] w fun e w'=>e = .returned (.int .i64 0)∧Upd (fun k=>k=g) w w'∧Wr w' g (s++qea n i):=by
 have o:n<18446744073709551616:=Nat.lt_of_lt_of_le hn (by
  have:(2:Nat) ^ (8*i)≤2 ^ 64:=Nat.pow_le_pow_right (by decide) (by omega);exact this)
 have Y:(n:Int) / 2 ^ (8*i)=0:=by
  refine Int.ediv_eq_zero_of_lt (by omega) ?_;exact_mod_cast hn
 have a8:(1:Int)≤i:=by omega
 have a9:(i:Int)≤8:=by omega
 have a4:(8*(i:Int)).toNat=8*i:=by omega
 have E:decide ((i:Int)<1)=false:=by simp;omega
 have V:decide ((8:Int)<(i:Int))=false:=by simp;omega
 have F:¬(i:Int)<1:=by omega
 have D:¬(8:Int)<(i:Int):=by omega
 have x:(n:Int)<18446744073709551616:=by omega
 go_enter Tryz.func93,Tryz.ntmps93
 go_wp2_with fail
 clear Y a4 E V F D
 have b3:=hg.lt
 go_loopw [7,8] (fun bv iv wr=>∃(m:Nat) (a:Option Addr) (c:Nat),iv = .int .i64 ((i:Int)-1-(m:Int))∧m≤i∧bv = .slice a m c∧Hid (qb9 wr w.heap.size bv (qx5 n i m))∧Upd (fun k=>w.heap.size≤k) w wr) (fun _ iv _=>(intOf iv+1).toNat)
 case atStart=>exact⟨0,_,_,by simp,Nat.zero_le _,rfl,qb (qb9.nil _ _),Upd.refl _ _⟩
 case round =>
  obtain⟨m,a,c,rfl,hm,rfl,N,M⟩:=hrel;by_cases E:m<i
  ·have b4:(m:Int)<(i:Int):=by omega
   have hb:=M.size;have ht:(8*((i:Int)-1-(m:Int))).toNat=8*(i-1-m):=by omega
   have X:∀k:Nat,(n:Int) / 2 ^ k<18446744073709551616∧0≤(n:Int) / 2 ^ k:=fun k=>by
    have X:(1:Int)≤2 ^ k:=Int.pow_pos (by decide);exact⟨Int.lt_of_le_of_lt (Int.ediv_le_self _ (by omega)) x,Int.ediv_nonneg (by omega) (by omega)⟩
   obtain⟨q1,q0⟩:=X (8*(i-1-m));have Z:IntKind.u64.wrap ((n:Int) / 2 ^ (8*(i-1-m)))=(n:Int) / 2 ^ (8*(i-1-m)):=by rw[IntKind.wrap_u64];omega
   have a6:=qb (And.intro o x);have I:(qx5 n i m).length≤1073741824:=by simp[qx5];omega
   have J:qx5 n i (m+1)=qx5 n i m++[(n:Int) / 2 ^ (8*(i-1-m))%256]:=by unfold qx5;rw[List.range_succ,List.map_append];rfl
   have t:(qx5 n i (m+1)).length=m+1:=by simp[qx5]
   have y:=qb J;have R:=qb t;have W:0≤(i:Int)-1-(m:Int):=by omega
   clear X J t q1 o x;go_wp2_with (at_builtin;refine qlc rfl (.tmp 28) (.tmp 34) rfl w.heap.size _ _ rfl _ _ _ rfl (qa N) I hb ?_);intro v' w5 l u5;have u6:=M.then u5 (fun q _ h=>((qa N).ge h).1);rw[←qa y] at l;obtain⟨a5,c5,rfl⟩:=l.shape;rw[qa R] at l ⊢;have P:=qb l;clear l u5 N y q0 I ht W Z;go_wp2;go_roundw
   case rel=>exact⟨m+1,a5,c5,by congr 1;omega,by omega,rfl,P,u6⟩
   case measure=>simp[intOf];omega
  ·obtain rfl:m=i:=by omega
   rw[show (m:Int)-1-(m:Int) = -1 by omega];have L:=ql1 (((qa N).upd ((Upd.refl (fun _=>False) wr).drew) (fun _ _ h=>h)));have v:=M.old hg (fun h=>by omega);have c0:=qh v 0;have z0:=qw v 0;simp at c0;have H:strOfNums (qx5 n m m)=qea n m:=rfl;rw[H] at L;have hq:=qho n m;generalize K:qea n m=q at L hq ⊢;have U:=qb K;clear K;have z:=qah v 0 (.string (s++q));have nW:qq w wr:=Upd.of_below (M.below' (Nat.le_refl _) (fun _ h=>h)) (Nat.le_refl _);have uW:Upd (fun k=>k=g) w (wr.setCell ⟨g,0,none⟩ (.string (s++q))):=(nW.mono (T:=fun k=>k=g) (fun _ _ h=>h.elim)).set1 0 _;have O:=qb z;clear z nW M;clear H;have a7:¬9223372036854775807<s.size+m:=by omega
   go_wp2_with fail;go_region_law (fail)
   all_goals
    have C:=qa O;generalize wr.setCell ⟨g,0,none⟩ (.string (s++q))=wS at C uW ⊢;go_wp2;go_ret;exact⟨rfl,uW.drew,by rw[qa U];exact C⟩
theorem qig.drew{w:World}{b:Nat}{ws:List Int}(h:qig w b ws):qig w.drew b ws:=h
theorem qeg{w:World}{b:Nat}{xs:List Int}(h:qig w b xs)(n:Nat)(g:xs.length=n):(convert 22 9 (.slice (some ⟨b,0,none⟩) n n)).run Tryz.prog w = .ok (.string (strOfNums xs)) w:=by
 obtain⟨T,h⟩:=h;exact qe4 w 22 9 5 Tryz.underlying22 Tryz.underlying5 Tryz.underlying9 b n xs T (0,0) n g h
set_option maxRecDepth 100000 in
set_option maxHeartbeats 1000000 in
theorem zbs(g:Nat)(h:List Int)(s:ByteArray)(w:World)(C:Wr w g s)(D:h.length=32)(L:s.size≤1073741824) :
  Calls Tryz.prog 95 #[.pointer (some ⟨g,0,none⟩),.agg (h.map (Value.int .u8)).toArray] w fun e w'=>e = .returned (.tuple #[])∧Upd (fun k=>k=g) w w'∧Wr w' g (s++strOfNums h):=by
 have K:(strOfNums h).size=32:=by rw[strOfNums_size,D]
 generalize o:(h.map (Value.int .u8)).toArray=hv
 go_enter Tryz.func95,Tryz.ntmps95
 go_upto_region 1 with fail
 have z:qig (w.alloc (.cells hv 33)) w.heap.size h:=⟨_,by rw[o];exact qi _ _⟩
 have v:qq w (w.alloc (.cells hv 33)):=(Upd.refl _ _).alloc _
 have J:=C.lt
 have i:=C.new v
 generalize w.alloc (.cells hv 33)=w1 at z v i ⊢
 have E:=qeg (z.drew) 32 D
 have I:=qh i 0
 have N:=qw i 0
 simp at I
 generalize t:strOfNums h=q at E K
 have y:=qb t
 have l:=qah i 0 (.string (s++q))
 have H:Upd (fun k=>k=g) w (w1.setCell ⟨g,0,none⟩ (.string (s++q))):=(v.mono (T:=fun k=>k=g) (fun _ _ h=>h.elim)).set1 0 _
 have x:=qb l
 have F:¬9223372036854775807<s.size+32:=by omega
 clear t l v z o i C D
 go_region_law (fail)
 all_goals
  have m:=qa x;generalize w1.setCell ⟨g,0,none⟩ (.string (s++q))=M at m H ⊢;go_end0;exact⟨rfl,H.drew,by rw[qa y];exact m⟩
set_option maxHeartbeats 1000000 in
theorem q2s(g:Nat)(s:ByteArray)(w:World)(i:Wr w g s) :
  Calls Tryz.prog 96 #[.pointer (some ⟨g,0,none⟩)] w fun e w'=>e = .returned (.string s)∧w=w':=by
 have l:=qh i 0
 simp at l
 clear i
 go_enter Tryz.func96,Tryz.ntmps96
 go_wp2
 go_ret
 exact⟨rfl,rfl⟩
end Go.Proofs.YthnohmjbbeahmaaGreatDoor
