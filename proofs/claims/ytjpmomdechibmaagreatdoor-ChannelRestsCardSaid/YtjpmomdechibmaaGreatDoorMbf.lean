/-
  Package digest: tail, Pad, Sum.
-/
import Derived.Test.YtjpmomdechibmaaGreatDoorMbe
import Derived.Outline
import Derived.Test.YtjpmomdechibmaaGreatDoorMaa
import Derived.Lib.JoinLaws
import Derived.ArgAppend
import Derived.Laws.IdiomStrings
import Derived.Laws.BitsAllLaws
import Derived.Laws.Bits64
import Derived.IntWalk
import Derived.Deep.CutRange
import Derived.BigRegion
import Derived.Deep.RegionLaw
set_option linter.unusedVariables false
set_option linter.unusedSimpArgs false
namespace Go.Proofs.YtjpmomdechibmaaGreatDoor
open Go.RowKit
def qdo(n:Nat):Nat:=(119-n%64)%64
theorem qmv(n:Nat):qdo n<64:=Nat.mod_lt _ (by decide)
theorem zb0(n k:Nat)(h:k<qdo n):(n+(k+1)+8)%64≠0:=by unfold qdo at h;omega
theorem q24(n:Nat):(n+(qdo n+1)+8)%64=0:=by unfold qdo;omega
def qko(n i:Nat):Int:=(8*n:Int) / 2 ^ (56-8*i)%256
def qov(n:Nat):List Int:=(128::List.replicate (qdo n) 0)++(List.range 8).map (qko n)
theorem qnz(n:Nat):(qov n).length=qdo n+9:=by simp[qov]
set_option maxRecDepth 100000 in
set_option maxHeartbeats 1000000 in
theorem zab(n:Nat)(w:World)(W:n≤1073741824) :
  Calls Tryz.prog 129 #[.int .u64 n] w (qa7 (.string (strOfNums (qov n))) w):=by
 have X:=qmv n
 go_enter Tryz.func129,Tryz.ntmps129
 go_wp2_with fail
 have E:=qb0.made w w.heap.size [128] (Nat.le_refl _) (by decide)
 have M:Upd (fun k=>w.heap.size≤k) w (w.alloc (.cells #[.int .u8 128] 5)):=(Upd.refl _ _).alloc _
 simp only[List.map_cons,List.map_nil,List.length_cons,List.length_nil,Nat.zero_add] at E
 generalize w.alloc (.cells #[.int .u8 128] 5)=wa at E M ⊢
 have g:=qb E
 clear E
 go_loopw [3] (fun t wr=>∃(k:Nat) (a:Option Addr) (c:Nat),t = .slice a (k+1) c∧k≤qdo n∧Hid (qb0 wr w.heap.size t (128::List.replicate k 0))∧Upd (fun k=>w.heap.size≤k) w wr) (fun t _=>100-(match t with | .slice _ l _=>l | _=>0))
 case atStart=>exact⟨0,_,_,rfl,Nat.zero_le _,g,M⟩
 case round =>
  obtain⟨k,a,c,rfl,V,g,x⟩:=hrel
  by_cases C:k<qdo n
  ·have v:=zb0 n k C
   have O:((((n:Int)+((k:Int)+1))+8)%64 != 0)=true:=by rw[bne_iff_ne];omega
   have H:(k:Int)<64:=by omega
   have I:(n:Int)≤1073741824:=by omega
   have F:=x.size
   clear v
   go_wp2_with (at_builtin;refine qkc rfl (.tmp 14) (.tmp 15) rfl w.heap.size _ _ rfl 0 _ _ rfl (qa g) (by simp;omega) F ?_)
   intro T L f D
   have K:=x.then D (fun q _ h=>((qa g).ge h).1)
   obtain⟨y,z,rfl⟩:=f.shape
   replace f:qb0 L w.heap.size (Value.slice y (128::(List.replicate k (0:Int)++[0])).length z) (128::(List.replicate k 0++[0])):=f
   rw[←List.replicate_succ'] at f
   simp only[List.length_append,List.length_cons,List.length_replicate,List.length_nil,Nat.zero_add] at f ⊢
   have o:=qb f
   clear f D g
   go_wp2
   go_roundw
   case rel=>exact⟨k+1,y,z,rfl,by omega,o,K⟩
   case measure=>simp;omega
  ·obtain rfl:k=qdo n:=by omega
   have v:=q24 n
   have O:((((n:Int)+((qdo n:Int)+1))+8)%64 != 0)=false:=by rw[bne_eq_false_iff_eq];omega
   have H:(qdo n:Int)<64:=by omega
   have I:(n:Int)≤1073741824:=by omega
   obtain⟨N,rfl⟩:∃N:World,N=wr:=⟨_,rfl⟩
   clear v
   go_wp2_with fail
   go_loopw [3,4,17] (fun t _ J wr=>∃(i:Nat) (a:Option Addr) (c:Nat),J = .int .i64 (i:Int)∧i≤8∧t = .slice a (qdo n+1+i) c∧Hid (qb0 wr w.heap.size t ((128::List.replicate (qdo n) 0)++(List.range i).map (qko n)))∧Upd (fun k=>w.heap.size≤k) w wr) (fun _ _ J _=>8-(intOf J).toNat)
   case atStart=>exact⟨0,_,_,rfl,by omega,rfl,by simpa using g,x⟩
   case round =>
    obtain⟨i,a,c,rfl,U,rfl,g,x⟩:=hrel
    by_cases C:i<8
    ·have P:(i:Int)<8:=by omega
     have F:=x.size
     go_wp2_with (at_builtin;refine qkc rfl (.tmp 20) (.tmp 28) rfl w.heap.size _ _ rfl _ _ _ rfl (qa g) (by simp;omega) F ?_)
     intro T L f D
     have K:=x.then D (fun q _ h=>((qa g).ge h).1)
     obtain⟨y,z,rfl⟩:=f.shape
     have m:(128::(List.replicate (qdo n) (0:Int)++((List.range i).map (qko n)++[8*(n:Int) / 2 ^ (56-8*i)%256]))).length=qdo n+1+(i+1):=by simp;omega
     rw[m] at f ⊢
     replace f:qb0 L w.heap.size (.slice y (qdo n+1+(i+1)) z) ((128::List.replicate (qdo n) 0)++(List.range (i+1)).map (qko n)):=by
      rw[List.range_succ,List.map_append,←List.append_assoc]
      have e:(128::List.replicate (qdo n) (0:Int))++(List.range i).map (qko n)++[qko n i]=128::(List.replicate (qdo n) 0++((List.range i).map (qko n)++[8*(n:Int) / 2 ^ (56-8*i)%256])):=by simp[qko]
      exact e▸f
     clear m
     have o:=qb f
     clear f D g
     go_wp2
     go_roundw
     case rel=>exact⟨i+1,y,z,by go_num,by omega,rfl,o,K⟩
     case measure=>simp[intOf];omega
    ·obtain rfl:i=8:=by omega
     rw[show ((8:Nat):Int)=8 from rfl]
     have R:=qkv (qa g)
     go_wp2
     go_ret
     exact⟨rfl,x.below' (Nat.le_refl _) (fun _ h=>h) |> fun h=>Upd.of_below h (Nat.le_refl _)⟩
set_option maxHeartbeats 1000000 in
theorem zb1(s:ByteArray)(w:World)(m:s.size≤1073741824) :
  Calls Tryz.prog 110 #[.string s] w (qa7 (.string (s++strOfNums (qov s.size))) w):=by
 have l:(s.size:Int)≤1073741824:=by omega
 have o:=qmv s.size
 have f:(strOfNums (qov s.size)).size=qdo s.size+9:=by rw[strOfNums_size,qnz]
 generalize qdo s.size=z at o f
 go_enter Tryz.func110,Tryz.ntmps110
 go_wp2_with fail
 refine(zab s.size w m).mono ?_
 rintro e w1 ⟨rfl,q⟩
 generalize g:strOfNums (qov s.size)=t at f ⊢
 have i:=qb g
 clear g
 go_wp2
 go_ret
 exact⟨by rw[qa i];rfl,q⟩
theorem qsd{w:World}{b n:Nat}{A:Array Value}(t:0<n)(q:A.size=n)(h:∀j,j<n→w.cell? ⟨b,j,none⟩=A[j]?):zx w b 0 n=some A:=by
 have f:=h (n-1) (by omega)
 rw[Array.getElem?_eq_getElem (by omega)] at f
 unfold zx
 unfold World.cell? at h f
 cases g:w.heap[b]? with
 | none=>rw[g] at f;cases f
 | some m =>
  simp only[g] at h f
  cases m with
  | cells C T o =>
   simp only at h f ⊢
   have v:=(Array.getElem?_eq_some_iff.1 f).1
   rw[if_pos (by omega)]
   congr 1
   refine Array.ext_getElem? fun i=> ?_
   rw[Array.getElem?_extract]
   by_cases l:i<n
   ·rw[if_pos (by omega),Nat.zero_add]
    exact h i l
   ·rw[if_neg (by omega),Array.getElem?_eq_none (by omega)]
  | _=>cases f
theorem Tabs.row{w:World}(h:Tabs w):zx w 1 0 8=some (qjf.map (Value.int .u32)).toArray:=by
 refine qsd (by decide) rfl fun j f=> ?_
 rw[h.start j f]
 match j,f with
 | 0,_=>rfl
 | 1,_=>rfl
 | 2,_=>rfl
 | 3,_=>rfl
 | 4,_=>rfl
 | 5,_=>rfl
 | 6,_=>rfl
 | 7,_=>rfl
theorem qmf:qfh qjf:=by unfold qfh qjf;decide
def qin(s:ByteArray):ByteArray:=s++strOfNums (qov s.size)
def qf7(s:ByteArray):List Int:=qgv (qj4 ((qin s).size / 64) qjf (qin s)) 32
theorem qck(s:ByteArray):(qf7 s).length=32:=qh7 _ _
def zc0(x:Value):Sem Value:=Instr.loadAt 28 x
theorem qkn(x:Value):Instr.loadAt 28 x=zc0 x:=rfl
theorem q0q(b o:Nat)(w:World):(zc0 (.pointer (some ⟨b,o,none⟩))).run Tryz.prog w=match zx w b o 32 with | some A=> .ok (.agg A) w | none=>qdw Tryz.prog 28 w b o :=
 zy 28 32 _ Tryz.underlying28 rfl Tryz.infoHash b o w
def zdf(x v:Value):Sem Unit:=Instr.storeAt 28 x v
theorem qkz(x v:Value):Instr.storeAt 28 x v=zdf x v:=rfl
theorem q1v(b o:Nat)(A:Array Value)(w:World):(zdf (.pointer (some ⟨b,o,none⟩)) (.agg A)).run Tryz.prog w=if stOk w b o 32 A=true then .ok () (w.setCells b o A.toList) else qfx Tryz.prog 28 w b o A :=
 qay 28 32 Tryz.infoHash b o A w
attribute [local go_sem ↓ high] qqy qrp qkn qkz
attribute [local go_sem] zc8 zdn q0q q1v
def ze0(f:World)(A:Nat)(r:List Int):Nat→World→Prop
 | 0,w=>qy f w
 | _,w=>Upd (fun k=>k=A) f w∧qba .u8 w A r
set_option maxRecDepth 100000 in
set_option maxHeartbeats 1000000 in
theorem qjx(s:ByteArray)(w:World)(hs:s.size≤1000000000)(Z:Tabs w) :
  Calls Tryz.prog 84 #[.string s] w fun e w'=>e = .returned (.agg ((qf7 s).map (Value.int .u8)).toArray)∧qy w w':=by
 have hl:(qin s).size≤1073741824:=by
  unfold qin
  rw[ByteArray.size_append,strOfNums_size,qnz]
  have:=qmv s.size
  omega
 have H:=fun W=>zb1 s W (by omega)
 have F:=fun W h1=>qzo qjf (qin s) W rfl qmf hl h1
 have C:=fun W=>q3s (qj4 ((qin s).size / 64) qjf (qin s)) W (q2f _ _ _ ⟨rfl,qmf⟩).1 (q2f _ _ _ ⟨rfl,qmf⟩).2
 have g:=qck s
 change ∀W,Calls _ _ _ _ (qa7 (.string (qin s)) W) at H
 change ∀W,Calls _ _ _ _ (fun e w'=>e = .returned (.agg ((qf7 s).map (Value.int .u8)).toArray)∧qy W w') at C
 have HF:=qb (rfl:qf7 s=qf7 s)
 go_enter Tryz.func84,Tryz.ntmps84
 go_upto_region 1 with fail
 obtain⟨T0,L⟩:∃T,(w.alloc (.cells #[.int .u8 0,.int .u8 0,.int .u8 0,.int .u8 0,.int .u8 0,.int .u8 0,.int .u8 0,.int .u8 0,.int .u8 0,.int .u8 0,.int .u8 0,.int .u8 0,.int .u8 0,.int .u8 0,.int .u8 0,.int .u8 0,.int .u8 0,.int .u8 0,.int .u8 0,.int .u8 0,.int .u8 0,.int .u8 0,.int .u8 0,.int .u8 0,.int .u8 0,.int .u8 0,.int .u8 0,.int .u8 0,.int .u8 0,.int .u8 0,.int .u8 0,.int .u8 0] 28)).heap[w.heap.size]? = some (.cells ((List.replicate 32 0).map (Value.int .u8)).toArray T (0,0)):=⟨_,qi _ _⟩
 have R:qy w (w.alloc (.cells #[.int .u8 0,.int .u8 0,.int .u8 0,.int .u8 0,.int .u8 0,.int .u8 0,.int .u8 0,.int .u8 0,.int .u8 0,.int .u8 0,.int .u8 0,.int .u8 0,.int .u8 0,.int .u8 0,.int .u8 0,.int .u8 0,.int .u8 0,.int .u8 0,.int .u8 0,.int .u8 0,.int .u8 0,.int .u8 0,.int .u8 0,.int .u8 0,.int .u8 0,.int .u8 0,.int .u8 0,.int .u8 0,.int .u8 0,.int .u8 0,.int .u8 0,.int .u8 0] 28)):=(Upd.refl _ _).alloc _
 generalize w.alloc (.cells #[.int .u8 0,.int .u8 0,.int .u8 0,.int .u8 0,.int .u8 0,.int .u8 0,.int .u8 0,.int .u8 0,.int .u8 0,.int .u8 0,.int .u8 0,.int .u8 0,.int .u8 0,.int .u8 0,.int .u8 0,.int .u8 0,.int .u8 0,.int .u8 0,.int .u8 0,.int .u8 0,.int .u8 0,.int .u8 0,.int .u8 0,.int .u8 0,.int .u8 0,.int .u8 0,.int .u8 0,.int .u8 0,.int .u8 0,.int .u8 0,.int .u8 0,.int .u8 0] 28)=m at L R ⊢
 have o:=g
 have U:qba .u8 m w.heap.size (List.replicate 32 0):=⟨T0,L⟩
 have V:=qb (Z.new R)
 generalize M:qj4 ((qin s).size / 64) qjf (qin s)=K at F C
 generalize y:qf7 s=l at C g o
 generalize P:qin s=ps at H F hl
 have HP:=qb H
 have HB:=qb F
 have HY:=qb C
 have J:=qb y
 have E:=qb g
 have z:=U.stOk (r:=l) (n:=32) (by simpa using o) o
 clear H F C M y P o L Z g HF
 refine qnd (by kernel_rfl) [[],[],[(1,4)],[(0,3),(2,5)],[(3,6)],[(4,7)]] 8 rfl (by kernel_rfl) [(0,3),(1,4),(2,5),(3,6),(4,7)] (by kernel_rfl) [5] (by kernel_rfl) [[(0,0)],[(0,0)],[(0,0)],[(0,0)],[(0,0)],[(0,1)]] (by kernel_rfl)
  (ze0 m w.heap.size l) qbl (isV [.agg (qjf.map (Value.int .u32)).toArray,.string s,.string ps,.agg (K.map (Value.int .u32)).toArray,.agg (l.map (Value.int .u8)).toArray,undef])
  ((Upd.refl _ _).drew) (fun _=>qbl.all _ _) (fun _ _ _ _ _ _ _ _ _ h=>h) ?_ ?_
 ·refine .one rfl ?_ <| .pure rfl (fun _=>qbl.all _ _) rfl ?_ <| .one rfl ?_ <| .one rfl ?_ <| .one rfl ?_ <| .one rfl ?_ <| .nil
  ·intro ql w1 f _
   replace f:qy m w1:=f
   have o:=((qa V).new f).row
   generalize (qjf.map (Value.int .u32)).toArray=Y at o ⊢
   unfold zk;simp only[putL];go_simp
   exact⟨qbl.all _ _,f,rfl⟩
  ·intro ql w1 _
   unfold zk;simp only[putL];go_simp
   first | exact⟨rfl,rfl⟩ | rfl
  ·rintro ql w1 f ⟨i,-⟩
   replace f:qy m w1:=f
   replace i:ql 1 = .string s:=i
   unfold zk;simp only[putL];go_simp
   refine(qa HP w1).mono ?_
   rintro e w2 ⟨rfl,D⟩
   exact⟨_,rfl,qbl.all _ _,f.trans D,rfl⟩
  ·rintro ql w1 f ⟨i,p1,-⟩
   replace f:qy m w1:=f
   replace i:ql 0 = .agg (qjf.map (Value.int .u32)).toArray:=i
   replace p1:ql 2 = .string ps:=p1
   have t:=qb (qa HB w1 ((qa V).new f))
   generalize (qjf.map (Value.int .u32)).toArray=Y at i t
   unfold zk;simp only[putL];go_simp
   refine(qa t).mono ?_
   rintro e w2 ⟨rfl,D⟩
   exact⟨_,rfl,qbl.all _ _,f.trans D,rfl⟩
  ·rintro ql w1 f ⟨i,-⟩
   replace f:qy m w1:=f
   replace i:ql 3 = .agg (K.map (Value.int .u32)).toArray:=i
   have t:=qb (qa HY w1)
   generalize (K.map (Value.int .u32)).toArray=Y at i t
   unfold zk;simp only[putL];go_simp
   refine(qa t).mono ?_
   rintro e w2 ⟨rfl,D⟩
   exact⟨_,rfl,qbl.all _ _,f.trans D,rfl⟩
  ·rintro ql w1 f ⟨i,-⟩
   replace f:qy m w1:=f
   replace i:ql 4 = .agg (l.map (Value.int .u8)).toArray:=i
   have v:=U.upd f (fun h=>h)
   have z:=v.stOk (r:=l) (n:=32) (by simpa using qa E) (qa E)
   have x:=qb (v.setAll (r:=l) (by simpa using qa E))
   have I:=qb ((f.mono (T:=fun k=>k=w.heap.size) (fun _ _ h=>h.elim)).then ((Upd.refl (· = w.heap.size) w1).setCells 0 (l.map (Value.int .u8))) (fun _ _ h=>h))
   have X:(l.map (Value.int .u8)).toArray.toList=l.map (Value.int .u8):=rfl
   generalize O:(l.map (Value.int .u8)).toArray=cs at i z X
   generalize N:l.map (Value.int .u8)=cl at X x I
   clear O N v
   unfold zk;simp only[putL];go_simp
   exact⟨qbl.all _ _,⟨qa I,qa x⟩,rfl⟩
 ·intro ql w1 f hv
  clear hv
  replace f:Upd (fun k=>k=w.heap.size) m w1∧qba .u8 w1 w.heap.size l:=f
  obtain⟨I,T1,v⟩:=f
  simp only[putL]
  have nE:=R.then I (by intro q hq h;omega)
  go_wp2_with fail
  refine bodyPost_ret (results_cell_row rfl _ _ w.heap.size T1 _ _ _ rfl v Tryz.underlying28 rfl (by rw[List.size_toArray,List.length_map,qa E];exact Tryz.infoHash)) rfl ?_
  exact⟨by rw[qa J],nE⟩
end Go.Proofs.YtjpmomdechibmaaGreatDoor
namespace Go.Proofs.YtjpmomdechibmaaGreatDoor
open Go.RowKit
def qds(w:World)(base:Nat)(v:Value)(xs:List Int):Prop :=
 ∃g cap f i,v = .slice (some ⟨g,0,none⟩) xs.length cap∧base≤g∧w.heap[g]? = some (.cells f 5 i)∧(i=(0,0)∨f.size≤i.1)∧xs.length≤cap∧f.size=cap∧f.toList.take xs.length=xs.map (Value.int .u8)
theorem qds.shape{w:World}{base:Nat}{v:Value}{xs:List Int}(h:qds w base v xs):∃a c,v = .slice (some a) xs.length c:=by
 obtain⟨g,cap,f,i,rfl,_⟩:=h
 exact⟨_,_,rfl⟩
theorem qds.ge{w:World}{base:Nat}{v:Value}{xs:List Int}(h:qds w base v xs){k:Nat}(f:v.ownBlock=some k):base≤k∧k<w.heap.size:=by
 obtain⟨g,cap,i,o,rfl,l,m,_⟩:=h
 simp[Value.ownBlock] at f
 subst f
 exact⟨l,zw m⟩
theorem qds.upd{S:Nat→Prop}{w w':World}{base:Nat}{v:Value}{xs:List Int}(h:qds w base v xs)(u:Upd S w w')(o:∀k,v.ownBlock=some k→¬S k):qds w' base v xs:=by
 obtain⟨g,cap,f,m,i,l,q,r⟩:=h
 exact⟨g,cap,f,m,i,l,u.old q (o g (by rw[i];rfl)),r⟩
theorem qds.ofO{w:World}{base:Nat}{v:Value}{xs:List Int}(h:qb0 w base v xs)(x:0<xs.length):qds w base v xs:=by
 rcases h.2 with ⟨rfl,e⟩ | ⟨g,cap,f,rfl,i,o,l,q,t,m⟩
 ·omega
 ·exact⟨g,cap,f,(0,0),rfl,i,o,.inl rfl,l,by omega,by simpa using m⟩
def qdi(s:ByteArray):List Int:=s.data.toList.map fun c=>(c.toNat:Int)
theorem qlr(s:ByteArray):(qdi s).length=s.size:=by
 unfold qdi
 rw[List.length_map,Array.length_toList]
 rfl
theorem qds.ofS(w:World)(s:ByteArray)(cap base:Nat)(g:base≤w.heap.size)(i:s.size≤cap) :
  qds (w.drew.alloc (.cells (bytesRow s cap) 5 ((bytesRow s cap).size,(bytesRow s cap).size+1))) base (.slice (some ⟨w.heap.size,0,none⟩) s.size cap) (qdi s):=by
 have f:(bytesRow s cap).size=cap:=by
  unfold bytesRow
  have:s.data.size=s.size:=rfl
  simp
  omega
 refine⟨w.heap.size,cap,bytesRow s cap,((bytesRow s cap).size,(bytesRow s cap).size+1),by rw[qlr],g,?_,.inr (Nat.le_refl _),by rw[qlr];exact i,f,?_⟩
 ·exact qi w.drew _
 ·unfold bytesRow qdi
  rw[Array.toList_append,List.take_append_of_le_length (by simp)]
  simp
  rw[List.take_of_length_le (by simp)]
  rfl
theorem qi5{J:Array Oper}{rest:List Oper}{o:Oper}{a:Act}{Q:Exit→Act→World→Prop}(F:o.guard=none)(s x:Operand)
  (Z:o.op = .call {callee:= .builtin .append,args:=#[s,x],argTypes:=#[111,111]})
  (base:Nat) (v:Value) (xs:List Int) (hs:a.eval s=v) (c:Int) (T:TypeId) (w:World) (hx:a.eval x = .slice (some ⟨w.heap.size,0,none⟩) 1 1) (I:qds w base v xs) (hl:xs.length≤1073741824) (hb:base≤w.heap.size)
  (h:∀L w',qds w' base L (xs++[c])→Upd (fun k=>v.ownBlock=some k) w w'→wpList Tryz.prog J Q rest (a.put o.dst L) w') :
  wpList Tryz.prog J Q (o::rest) a (w.alloc (.cells #[.int .u8 c] T)):=by
 obtain⟨i,Y,V,l,W⟩:=info_parts Tryz.infoU8
 obtain⟨g,cap,f,M,rfl,e2,hg,K,e3,e4,X⟩:=I
 have t:(w.alloc (.cells #[.int .u8 c] T)).heap[g]? = some (.cells f 5 M):=zl hg _
 have z:∀j u,[Value.int .u8 c][j]? = some u→(w.alloc (.cells #[.int .u8 c] T)).cell? ((⟨w.heap.size,0,none⟩:Addr).add j)=some u:=by
  intro j u y
  have m:(⟨w.heap.size,0,none⟩:Addr).add j=⟨w.heap.size,j,none⟩:=by unfold Addr.add;split<;>simp_all
  rw[m,qh (qi _ _)]
  simpa using y
 have C:∀u∈[Value.int .u8 c],u.oneCell'=true:=by
  intro u hu
  obtain rfl:=List.mem_singleton.1 hu
  rfl
 by_cases q:xs.length+1≤cap
 ·refine wpList_append_room_src _ F s x 111 111 Z 5 i Tryz.underlying111 Y g 0 xs.length cap hs _ hx 1 [.int .u8 c] (Src.ofSlice _ Tryz.underlying111 ⟨w.heap.size,0,none⟩ 1 1 _ (by rw[l];rfl) z C) q ?_ ?_ ?_
  ·intro j y
   rw[qh t]
   simp only[List.length_cons,List.length_nil] at y
   rw[Array.getElem?_eq_getElem (by rw[l];omega)]
   rfl
  ·intro j y
   simp only[List.length_cons,List.length_nil] at y
   have a5:0+xs.length*i.size+j<f.size:=by rw[l];omega
   unfold World.frozen?
   rw[t]
   rcases K with rfl | K
   ·simp
   ·obtain⟨lo,a4⟩:=M
    simp only at K ⊢
    rw[show decide (lo≤0+xs.length*i.size+j)=false by simpa using by omega]
    rfl
  ·refine h _ _ ⟨g,cap,f.setIfInBounds xs.length (.int .u8 c),M,by simp,e2,?_,by simpa using K,by simpa using q,by simpa using e4,?_⟩ ?_
   ·have:=zz t (0+xs.length*i.size) (.int .u8 c)
    rw[show 0+xs.length*i.size=xs.length by rw[l];omega] at this
    simpa [World.setCells,l] using this
   ·rw[List.length_append,List.map_append,Array.toList_setIfInBounds]
    simp only[List.length_cons,List.length_nil,List.map_cons,List.map_nil,Nat.zero_add]
    have U:xs.length<f.toList.length:=by
     have h9:f.toList.length=f.size:=Array.length_toList
     omega
    rw[List.take_add_one,List.take_set_of_le (Nat.le_refl _),X,List.getElem?_set_self U]
    rfl
   ·have u0:Upd (fun k=>(Value.slice (some ⟨g,0,none⟩) xs.length cap).ownBlock=some k) w (w.alloc (.cells #[.int .u8 c] T)):=(Upd.refl _ _).alloc _
    simp only[World.setCells]
    exact u0.setCell (p:=⟨g,0+xs.length*i.size,none⟩) (fun _=>rfl) _
 ·refine wpList_append_grows _ F s x 111 Z 5 i (.int .u8 0) 1 1 Tryz.underlying111 Y V l W rfl (by decide) (some ⟨g,0,none⟩) xs.length cap (xs.map (Value.int .u8)) hs (fun h=>by cases h) (by simp) ?_ ⟨w.heap.size,0,none⟩ 1 1 [.int .u8 c] hx rfl z C (by omega) (by unfold maxLen;omega) (by omega) ?_
  ·intro b O j u y
   obtain rfl:(⟨g,0,none⟩:Addr)=b:=Option.some.inj O
   have R:j<xs.length:=by
    have:=(List.getElem?_eq_some_iff.1 y).1
    simpa using this
   have m:(⟨g,0,none⟩:Addr).add j=⟨g,j,none⟩:=by unfold Addr.add;split<;>simp_all
   rw[m,qh t,←Array.getElem?_toList]
   rw[←X,List.getElem?_take_of_lt R] at y
   exact y
  ·intro L w' H P
   refine h L w' (qds.ofO (xs:=xs++[c]) ?_ (by simp)) ((((Upd.refl _ w).alloc _)).grown P (fun k e _=>by cases e))
   unfold qb0
   rw[List.length_append,List.map_append]
   refine⟨H.1,?_⟩
   rcases H.2 with N | ⟨g2,D,E,h1,N,h3⟩
   ·exact .inl N
   ·exact .inr ⟨g2,D,E,h1,by simp at N;omega,h3⟩
theorem qvv{w:World}{base:Nat}{v:Value}{xs:List Int}(h:qds w base v xs):(convert 111 9 v).run Tryz.prog w = .ok (.string (strOfNums xs)) w:=by
 obtain⟨g,cap,f,z,rfl,t,q,C,x,y,m⟩:=h
 refine run_convert_bytes_arg w 111 5 Tryz.underlying111 Tryz.underlying5 g 0 xs.length cap xs rfl (fun i l=> ?_) 9 Tryz.underlying9
 have o:f.toList[i]? = (xs.map (Value.int .u8))[i]? := by rw[←m,List.getElem?_take_of_lt (by omega)]
 rw[Nat.zero_add,qh q i,←Array.getElem?_toList,o,List.getElem?_map,List.getElem?_eq_getElem l]
 simp[List.getD,List.getElem?_eq_getElem l]
def zeo(n:Nat)(f:Nat):List Int:=(List.range f).map fun k=>(n:Int) / 2 ^ (8*(f-1-k))%256
theorem q81(n f:Nat):(zeo n f).length=f:=by simp[zeo]
def qdv(n f:Nat):ByteArray:=strOfNums (zeo n f)
theorem qgs(n f:Nat):(qdv n f).size=f:=by unfold qdv;rw[strOfNums_size,q81]
def Wr(w:World)(g:Nat)(s:ByteArray):Prop:=w.heap[g]? = some (.cells #[.string s] 154 (0,0))
theorem Wr.new{w w':World}{g:Nat}{s:ByteArray}(h:Wr w g s)(n:qy w w'):Wr w' g s:=n.old h (fun h=>h)
theorem Wr.lt{w:World}{g:Nat}{s:ByteArray}(h:Wr w g s):g<w.heap.size:=zw h
def qhe(w:World)(b:Nat)(ws:List Int):Prop:=∃T,w.heap[b]? = some (.cells (ws.map (Value.int .u8)).toArray T (0,0))
def qvf(n f m:Nat):List Int:=(List.range m).map fun k=>(n:Int) / 2 ^ (8*(f-1-k))%256
set_option maxRecDepth 100000 in
set_option maxHeartbeats 1000000 in
theorem q01(g n f:Nat)(s:ByteArray)(w:World)(hg:Wr w g s)(b4:1≤f)(b5:f≤8)(hn:n<2 ^ (8*f))(hs:s.size≤1073741824) :
  Calls Tryz.prog 86 #[.pointer (some ⟨g,0,none⟩),.int .u64 n,.int .i64 f] w fun e w'=>e = .returned (.int .i64 0)∧Upd (fun k=>k=g) w w'∧Wr w' g (s++qdv n f):=by
 have l:n<18446744073709551616:=Nat.lt_of_lt_of_le hn (by
  have:(2:Nat) ^ (8*f)≤2 ^ 64:=Nat.pow_le_pow_right (by decide) (by omega)
  exact this)
 have X:(n:Int) / 2 ^ (8*f)=0:=by
  refine Int.ediv_eq_zero_of_lt (by omega) ?_
  exact_mod_cast hn
 have a7:(1:Int)≤f:=by omega
 have a8:(f:Int)≤8:=by omega
 have Z:(8*(f:Int)).toNat=8*f:=by omega
 have D:decide ((f:Int)<1)=false:=by simp;omega
 have U:decide ((8:Int)<(f:Int))=false:=by simp;omega
 have E:¬(f:Int)<1:=by omega
 have C:¬(8:Int)<(f:Int):=by omega
 have v:(n:Int)<18446744073709551616:=by omega
 go_enter Tryz.func86,Tryz.ntmps86
 go_wp2_with fail
 clear X Z D U E C
 have a9:=hg.lt
 go_loopw [7,8] (fun bv iv wr=>∃(m:Nat) (a:Option Addr) (c:Nat),iv = .int .i64 ((f:Int)-1-(m:Int))∧m≤f∧bv = .slice a m c∧Hid (qb0 wr w.heap.size bv (qvf n f m))∧Upd (fun k=>w.heap.size≤k) w wr) (fun _ iv _=>(intOf iv+1).toNat)
 case atStart=>exact⟨0,_,_,by simp,Nat.zero_le _,rfl,qb (qb0.nil _ _),Upd.refl _ _⟩
 case round =>
  obtain⟨m,a,c,rfl,hm,rfl,M,L⟩:=hrel
  by_cases D:m<f
  ·have b3:(m:Int)<(f:Int):=by omega
   have hb:=L.size
   have ht:(8*((f:Int)-1-(m:Int))).toNat=8*(f-1-m):=by omega
   have W:∀k:Nat,(n:Int) / 2 ^ k<18446744073709551616∧0≤(n:Int) / 2 ^ k:=fun k=>by
    have W:(1:Int)≤2 ^ k:=Int.pow_pos (by decide)
    exact⟨Int.lt_of_le_of_lt (Int.ediv_le_self _ (by omega)) v,Int.ediv_nonneg (by omega) (by omega)⟩
   obtain⟨q1,q0⟩:=W (8*(f-1-m))
   have Y:IntKind.u64.wrap ((n:Int) / 2 ^ (8*(f-1-m)))=(n:Int) / 2 ^ (8*(f-1-m)):=by rw[IntKind.wrap_u64];omega
   have a4:=qb (And.intro l v)
   have H:(qvf n f m).length≤1073741824:=by simp[qvf];omega
   have I:qvf n f (m+1)=qvf n f m++[(n:Int) / 2 ^ (8*(f-1-m))%256]:=by unfold qvf;rw[List.range_succ,List.map_append];rfl
   have o:(qvf n f (m+1)).length=m+1:=by simp[qvf]
   have x:=qb I
   have P:=qb o
   have V:0≤(f:Int)-1-(m:Int):=by omega
   clear W I o q1 l v
   go_wp2_with (at_builtin;refine qkc rfl (.tmp 28) (.tmp 34) rfl w.heap.size _ _ rfl _ _ _ rfl (qa M) H hb ?_)
   intro v' w5 i u5
   have u6:=L.then u5 (fun q _ h=>((qa M).ge h).1)
   rw[←qa x] at i
   obtain⟨a5,c5,rfl⟩:=i.shape
   rw[qa P] at i ⊢
   have O:=qb i
   clear i u5 M x q0 H ht V Y
   go_wp2
   go_roundw
   case rel=>exact⟨m+1,a5,c5,by congr 1;omega,by omega,rfl,O,u6⟩
   case measure=>simp[intOf];omega
  ·obtain rfl:m=f:=by omega
   rw[show (m:Int)-1-(m:Int) = -1 by omega]
   have K:=qkv (((qa M).upd ((Upd.refl (fun _=>False) wr).drew) (fun _ _ h=>h)))
   have t:=L.old hg (fun h=>by omega)
   have c0:=qh t 0
   have z0:=qq t 0
   simp at c0
   have F:strOfNums (qvf n m m)=qdv n m:=rfl
   rw[F] at K
   have hq:=qgs n m
   generalize J:qdv n m=q at K hq ⊢
   have R:=qb J
   clear J
   have y:=zz t 0 (.string (s++q))
   have nW:qy w wr:=Upd.of_below (L.below' (Nat.le_refl _) (fun _ h=>h)) (Nat.le_refl _)
   have uW:Upd (fun k=>k=g) w (wr.setCell ⟨g,0,none⟩ (.string (s++q))):=(nW.mono (T:=fun k=>k=g) (fun _ _ h=>h.elim)).set1 0 _
   have N:=qb y
   clear y nW L
   clear F
   have a6:¬9223372036854775807<s.size+m:=by omega
   go_wp2_with fail
   go_region_law (fail)
   all_goals
    have z:=qa N
    generalize wr.setCell ⟨g,0,none⟩ (.string (s++q))=wS at z uW ⊢
    go_wp2
    go_ret
    exact⟨rfl,uW.drew,by rw[qa R];exact z⟩
theorem qhe.drew{w:World}{b:Nat}{ws:List Int}(h:qhe w b ws):qhe w.drew b ws:=h
theorem qd0{w:World}{b:Nat}{xs:List Int}(h:qhe w b xs)(n:Nat)(f:xs.length=n):(convert 111 9 (.slice (some ⟨b,0,none⟩) n n)).run Tryz.prog w = .ok (.string (strOfNums xs)) w:=by
 obtain⟨T,h⟩:=h
 exact qen w 111 9 5 Tryz.underlying111 Tryz.underlying5 Tryz.underlying9 b n xs T (0,0) n f h
set_option maxRecDepth 100000 in
set_option maxHeartbeats 1000000 in
theorem q71(g:Nat)(h:List Int)(s:ByteArray)(w:World)(z:Wr w g s)(C:h.length=32)(L:s.size≤1073741824) :
  Calls Tryz.prog 88 #[.pointer (some ⟨g,0,none⟩),.agg (h.map (Value.int .u8)).toArray] w fun e w'=>e = .returned (.tuple #[])∧Upd (fun k=>k=g) w w'∧Wr w' g (s++strOfNums h):=by
 have K:(strOfNums h).size=32:=by rw[strOfNums_size,C]
 generalize m:(h.map (Value.int .u8)).toArray=E
 go_enter Tryz.func88,Tryz.ntmps88
 go_upto_region 1 with fail
 have y:qhe (w.alloc (.cells E 28)) w.heap.size h:=⟨_,by rw[m];exact qi _ _⟩
 have t:qy w (w.alloc (.cells E 28)):=(Upd.refl _ _).alloc _
 have J:=z.lt
 have f:=z.new t
 generalize w.alloc (.cells E 28)=w1 at y t f ⊢
 have D:=qd0 (y.drew) 32 C
 have I:=qh f 0
 have N:=qq f 0
 simp at I
 generalize o:strOfNums h=q at D K
 have x:=qb o
 have i:=zz f 0 (.string (s++q))
 have H:Upd (fun k=>k=g) w (w1.setCell ⟨g,0,none⟩ (.string (s++q))):=(t.mono (T:=fun k=>k=g) (fun _ _ h=>h.elim)).set1 0 _
 have v:=qb i
 have F:¬9223372036854775807<s.size+32:=by omega
 clear o i t y m f z C
 go_region_law (fail)
 all_goals
  have l:=qa v
  generalize w1.setCell ⟨g,0,none⟩ (.string (s++q))=M at l H ⊢
  go_end0
  exact⟨rfl,H.drew,by rw[qa x];exact l⟩
set_option maxHeartbeats 1000000 in
theorem qzt(g:Nat)(s:ByteArray)(w:World)(f:Wr w g s) :
  Calls Tryz.prog 89 #[.pointer (some ⟨g,0,none⟩)] w fun e w'=>e = .returned (.string s)∧w=w':=by
 have i:=qh f 0
 simp at i
 clear f
 go_enter Tryz.func89,Tryz.ntmps89
 go_wp2
 go_ret
 exact⟨rfl,rfl⟩
end Go.Proofs.YtjpmomdechibmaaGreatDoor
