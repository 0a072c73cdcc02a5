/-
  Package digest: tail, Pad, Sum.
-/
import Derived.Test.YtjpmomdechibmaaGreatDoorMbf
import Derived.Outline
import Derived.Test.YtjpmomdechibmaaGreatDoorMaa
import Derived.Lib.JoinLaws
import Derived.ArgAppend
import Derived.Laws.IdiomStrings
import Derived.Laws.BitsAllLaws
import Derived.Laws.Bits64
import Derived.IntWalk
import Derived.Deep.CutRange
import Derived.BigRegion
import Derived.Deep.RegionLaw
set_option linter.unusedVariables false
set_option linter.unusedSimpArgs false
namespace Go.Proofs.YtjpmomdechibmaaGreatDoor
open Go.RowKit
def qdc(n:Nat):Nat:=(119-n%64)%64
theorem ql6(n:Nat):qdc n<64:=Nat.mod_lt _ (by decide)
theorem q99(n k:Nat)(h:k<qdc n):(n+(k+1)+8)%64≠0:=by unfold qdc at h;omega
theorem q1h(n:Nat):(n+(qdc n+1)+8)%64=0:=by unfold qdc;omega
def qj4(n i:Nat):Int:=(8*n:Int) / 2 ^ (56-8*i)%256
def qn3(n:Nat):List Int:=(128::List.replicate (qdc n) 0)++(List.range 8).map (qj4 n)
theorem qm9(n:Nat):(qn3 n).length=qdc n+9:=by simp[qn3]
set_option maxRecDepth 100000 in
set_option maxHeartbeats 1000000 in
theorem q8j(n:Nat)(w:World)(V:n≤1073741824) :
  Calls Tryz.prog 129 #[.int .u64 n] w (qa5 (.string (strOfNums (qn3 n))) w):=by
 have W:=ql6 n
 go_enter Tryz.func129,Tryz.ntmps129
 go_wp2_with fail
 have D:=qbs.made w w.heap.size [128] (Nat.le_refl _) (by decide)
 have L:Upd (fun k=>w.heap.size≤k) w (w.alloc (.cells #[.int .u8 128] 5)):=(Upd.refl _ _).alloc _
 simp only[List.map_cons,List.map_nil,List.length_cons,List.length_nil,Nat.zero_add] at D
 generalize w.alloc (.cells #[.int .u8 128] 5)=wa at D L ⊢
 have g:=qb D
 clear D
 go_loopw [3] (fun o wr=>∃(k:Nat) (a:Option Addr) (c:Nat),o = .slice a (k+1) c∧k≤qdc n∧Hid (qbs wr w.heap.size o (128::List.replicate k 0))∧Upd (fun k=>w.heap.size≤k) w wr) (fun o _=>100-(match o with | .slice _ l _=>l | _=>0))
 case atStart=>exact⟨0,_,_,rfl,Nat.zero_le _,g,L⟩
 case round =>
  obtain⟨k,a,c,rfl,U,g,v⟩:=hrel
  by_cases z:k<qdc n
  ·have t:=q99 n k z
   have N:((((n:Int)+((k:Int)+1))+8)%64 != 0)=true:=by rw[bne_iff_ne];omega
   have F:(k:Int)<64:=by omega
   have H:(n:Int)≤1073741824:=by omega
   have E:=v.size
   clear t
   go_wp2_with (at_builtin;refine qjt rfl (.tmp 14) (.tmp 15) rfl w.heap.size _ _ rfl 0 _ _ rfl (qa g) (by simp;omega) E ?_)
   intro R K f C
   have J:=v.then C (fun q _ h=>((qa g).ge h).1)
   obtain⟨x,y,rfl⟩:=f.shape
   replace f:qbs K w.heap.size (Value.slice x (128::(List.replicate k (0:Int)++[0])).length y) (128::(List.replicate k 0++[0])):=f
   rw[←List.replicate_succ'] at f
   simp only[List.length_append,List.length_cons,List.length_replicate,List.length_nil,Nat.zero_add] at f ⊢
   have m:=qb f
   clear f C g
   go_wp2
   go_roundw
   case rel=>exact⟨k+1,x,y,rfl,by omega,m,J⟩
   case measure=>simp;omega
  ·obtain rfl:k=qdc n:=by omega
   have t:=q1h n
   have N:((((n:Int)+((qdc n:Int)+1))+8)%64 != 0)=false:=by rw[bne_eq_false_iff_eq];omega
   have F:(qdc n:Int)<64:=by omega
   have H:(n:Int)≤1073741824:=by omega
   obtain⟨M,rfl⟩:∃M:World,M=wr:=⟨_,rfl⟩
   clear t
   go_wp2_with fail
   go_loopw [3,4,17] (fun o _ I wr=>∃(i:Nat) (a:Option Addr) (c:Nat),I = .int .i64 (i:Int)∧i≤8∧o = .slice a (qdc n+1+i) c∧Hid (qbs wr w.heap.size o ((128::List.replicate (qdc n) 0)++(List.range i).map (qj4 n)))∧Upd (fun k=>w.heap.size≤k) w wr) (fun _ _ I _=>8-(intOf I).toNat)
   case atStart=>exact⟨0,_,_,rfl,by omega,rfl,by simpa using g,v⟩
   case round =>
    obtain⟨i,a,c,rfl,T,rfl,g,v⟩:=hrel
    by_cases z:i<8
    ·have O:(i:Int)<8:=by omega
     have E:=v.size
     go_wp2_with (at_builtin;refine qjt rfl (.tmp 20) (.tmp 28) rfl w.heap.size _ _ rfl _ _ _ rfl (qa g) (by simp;omega) E ?_)
     intro R K f C
     have J:=v.then C (fun q _ h=>((qa g).ge h).1)
     obtain⟨x,y,rfl⟩:=f.shape
     have j:(128::(List.replicate (qdc n) (0:Int)++((List.range i).map (qj4 n)++[8*(n:Int) / 2 ^ (56-8*i)%256]))).length=qdc n+1+(i+1):=by simp;omega
     rw[j] at f ⊢
     replace f:qbs K w.heap.size (.slice x (qdc n+1+(i+1)) y) ((128::List.replicate (qdc n) 0)++(List.range (i+1)).map (qj4 n)):=by
      rw[List.range_succ,List.map_append,←List.append_assoc]
      have e:(128::List.replicate (qdc n) (0:Int))++(List.range i).map (qj4 n)++[qj4 n i]=128::(List.replicate (qdc n) 0++((List.range i).map (qj4 n)++[8*(n:Int) / 2 ^ (56-8*i)%256])):=by simp[qj4]
      exact e▸f
     clear j
     have m:=qb f
     clear f C g
     go_wp2
     go_roundw
     case rel=>exact⟨i+1,x,y,by go_num,by omega,rfl,m,J⟩
     case measure=>simp[intOf];omega
    ·obtain rfl:i=8:=by omega
     rw[show ((8:Nat):Int)=8 from rfl]
     have P:=qkc (qa g)
     go_wp2
     go_ret
     exact⟨rfl,v.below' (Nat.le_refl _) (fun _ h=>h) |> fun h=>Upd.of_below h (Nat.le_refl _)⟩
set_option maxHeartbeats 1000000 in
theorem zaa(s:ByteArray)(w:World)(l:s.size≤1073741824) :
  Calls Tryz.prog 110 #[.string s] w (qa5 (.string (s++strOfNums (qn3 s.size))) w):=by
 have j:(s.size:Int)≤1073741824:=by omega
 have m:=ql6 s.size
 have f:(strOfNums (qn3 s.size)).size=qdc s.size+9:=by rw[strOfNums_size,qm9]
 generalize qdc s.size=z at m f
 go_enter Tryz.func110,Tryz.ntmps110
 go_wp2_with fail
 refine(q8j s.size w l).mono ?_
 rintro e w1 ⟨rfl,o⟩
 generalize g:strOfNums (qn3 s.size)=t at f ⊢
 have i:=qb g
 clear g
 go_wp2
 go_ret
 exact⟨by rw[qa i];rfl,o⟩
theorem qrb{w:World}{b n:Nat}{A:Array Value}(t:0<n)(q:A.size=n)(h:∀j,j<n→w.cell? ⟨b,j,none⟩=A[j]?):zr w b 0 n=some A:=by
 have f:=h (n-1) (by omega)
 rw[Array.getElem?_eq_getElem (by omega)] at f
 unfold zr
 unfold World.cell? at h f
 cases g:w.heap[b]? with
 | none=>rw[g] at f;cases f
 | some m =>
  simp only[g] at h f
  cases m with
  | cells C T o =>
   simp only at h f ⊢
   have v:=(Array.getElem?_eq_some_iff.1 f).1
   rw[if_pos (by omega)]
   congr 1
   refine Array.ext_getElem? fun i=> ?_
   rw[Array.getElem?_extract]
   by_cases l:i<n
   ·rw[if_pos (by omega),Nat.zero_add]
    exact h i l
   ·rw[if_neg (by omega),Array.getElem?_eq_none (by omega)]
  | _=>cases f
theorem Tabs.row{w:World}(h:Tabs w):zr w 1 0 8=some (qi0.map (Value.int .u32)).toArray:=by
 refine qrb (by decide) rfl fun j f=> ?_
 rw[h.start j f]
 match j,f with
 | 0,_=>rfl
 | 1,_=>rfl
 | 2,_=>rfl
 | 3,_=>rfl
 | 4,_=>rfl
 | 5,_=>rfl
 | 6,_=>rfl
 | 7,_=>rfl
theorem qlq:qe3 qi0:=by unfold qe3 qi0;decide
def qh9(s:ByteArray):ByteArray:=s++strOfNums (qn3 s.size)
def qft(s:ByteArray):List Int:=qgj (qjl ((qh9 s).size / 64) qi0 (qh9 s)) 32
theorem qb8(s:ByteArray):(qft s).length=32:=qhs _ _
def za9(x:Value):Sem Value:=Instr.loadAt 28 x
theorem qj2(x:Value):Instr.loadAt 28 x=za9 x:=rfl
theorem qzf(b o:Nat)(w:World):(za9 (.pointer (some ⟨b,o,none⟩))).run Tryz.prog w=match zr w b o 32 with | some A=> .ok (.agg A) w | none=>qdk Tryz.prog 28 w b o :=
 zt 28 32 _ Tryz.underlying28 rfl Tryz.infoHash b o w
def zbl(x v:Value):Sem Unit:=Instr.storeAt 28 x v
theorem qkg(x v:Value):Instr.storeAt 28 x v=zbl x v:=rfl
theorem q0e(b o:Nat)(A:Array Value)(w:World):(zbl (.pointer (some ⟨b,o,none⟩)) (.agg A)).run Tryz.prog w=if stOk w b o 32 A=true then .ok () (w.setCells b o A.toList) else qfe Tryz.prog 28 w b o A :=
 qap 28 32 Tryz.infoHash b o A w
attribute [local go_sem ↓ high] qpy qql qj2 qkg
attribute [local go_sem] zbh zbt qzf q0e
def zc3(f:World)(A:Nat)(r:List Int):Nat→World→Prop
 | 0,w=>qx f w
 | _,w=>Upd (fun k=>k=A) f w∧qa2 .u8 w A r
set_option maxRecDepth 100000 in
set_option maxHeartbeats 1000000 in
theorem qje(s:ByteArray)(w:World)(hs:s.size≤1000000000)(Y:Tabs w) :
  Calls Tryz.prog 84 #[.string s] w fun e w'=>e = .returned (.agg ((qft s).map (Value.int .u8)).toArray)∧qx w w':=by
 have Z:(qh9 s).size≤1073741824:=by
  unfold qh9
  rw[ByteArray.size_append,strOfNums_size,qm9]
  have:=ql6 s.size
  omega
 have F:=fun W=>zaa s W (by omega)
 have E:=fun W h1=>qyh qi0 (qh9 s) W rfl qlq Z h1
 have z:=fun W=>q14 (qjl ((qh9 s).size / 64) qi0 (qh9 s)) W (q0x _ _ _ ⟨rfl,qlq⟩).1 (q0x _ _ _ ⟨rfl,qlq⟩).2
 have g:=qb8 s
 change ∀W,Calls _ _ _ _ (qa5 (.string (qh9 s)) W) at F
 change ∀W,Calls _ _ _ _ (fun e w'=>e = .returned (.agg ((qft s).map (Value.int .u8)).toArray)∧qx W w') at z
 have HF:=qb (rfl:qft s=qft s)
 go_enter Tryz.func84,Tryz.ntmps84
 go_upto_region 1 with fail
 obtain⟨T0,K⟩:∃T,(w.alloc (.cells #[.int .u8 0,.int .u8 0,.int .u8 0,.int .u8 0,.int .u8 0,.int .u8 0,.int .u8 0,.int .u8 0,.int .u8 0,.int .u8 0,.int .u8 0,.int .u8 0,.int .u8 0,.int .u8 0,.int .u8 0,.int .u8 0,.int .u8 0,.int .u8 0,.int .u8 0,.int .u8 0,.int .u8 0,.int .u8 0,.int .u8 0,.int .u8 0,.int .u8 0,.int .u8 0,.int .u8 0,.int .u8 0,.int .u8 0,.int .u8 0,.int .u8 0,.int .u8 0] 28)).heap[w.heap.size]? = some (.cells ((List.replicate 32 0).map (Value.int .u8)).toArray T (0,0)):=⟨_,qi _ _⟩
 have P:qx w (w.alloc (.cells #[.int .u8 0,.int .u8 0,.int .u8 0,.int .u8 0,.int .u8 0,.int .u8 0,.int .u8 0,.int .u8 0,.int .u8 0,.int .u8 0,.int .u8 0,.int .u8 0,.int .u8 0,.int .u8 0,.int .u8 0,.int .u8 0,.int .u8 0,.int .u8 0,.int .u8 0,.int .u8 0,.int .u8 0,.int .u8 0,.int .u8 0,.int .u8 0,.int .u8 0,.int .u8 0,.int .u8 0,.int .u8 0,.int .u8 0,.int .u8 0,.int .u8 0,.int .u8 0] 28)):=(Upd.refl _ _).alloc _
 generalize w.alloc (.cells #[.int .u8 0,.int .u8 0,.int .u8 0,.int .u8 0,.int .u8 0,.int .u8 0,.int .u8 0,.int .u8 0,.int .u8 0,.int .u8 0,.int .u8 0,.int .u8 0,.int .u8 0,.int .u8 0,.int .u8 0,.int .u8 0,.int .u8 0,.int .u8 0,.int .u8 0,.int .u8 0,.int .u8 0,.int .u8 0,.int .u8 0,.int .u8 0,.int .u8 0,.int .u8 0,.int .u8 0,.int .u8 0,.int .u8 0,.int .u8 0,.int .u8 0,.int .u8 0] 28)=l at K P ⊢
 have m:=g
 have R:qa2 .u8 l w.heap.size (List.replicate 32 0):=⟨T0,K⟩
 have U:=qb (Y.new P)
 generalize L:qjl ((qh9 s).size / 64) qi0 (qh9 s)=J at E z
 generalize x:qft s=j at z g m
 generalize O:qh9 s=ps at F E Z
 have HP:=qb F
 have HB:=qb E
 have HY:=qb z
 have I:=qb x
 have D:=qb g
 have y:=R.stOk (r:=j) (n:=32) (by simpa using m) m
 clear F E z L x O m K Y g HF
 refine qmp (by kernel_rfl) [[],[],[(1,4)],[(0,3),(2,5)],[(3,6)],[(4,7)]] 8 rfl (by kernel_rfl) [(0,3),(1,4),(2,5),(3,6),(4,7)] (by kernel_rfl) [5] (by kernel_rfl) [[(0,0)],[(0,0)],[(0,0)],[(0,0)],[(0,0)],[(0,1)]] (by kernel_rfl)
  (zc3 l w.heap.size j) qbc (isV [.agg (qi0.map (Value.int .u32)).toArray,.string s,.string ps,.agg (J.map (Value.int .u32)).toArray,.agg (j.map (Value.int .u8)).toArray,undef])
  ((Upd.refl _ _).drew) (fun _=>qbc.all _ _) (fun _ _ _ _ _ _ _ _ _ h=>h) ?_ ?_
 ·refine .one rfl ?_ <| .pure rfl (fun _=>qbc.all _ _) rfl ?_ <| .one rfl ?_ <| .one rfl ?_ <| .one rfl ?_ <| .one rfl ?_ <| .nil
  ·intro qk w1 f _
   replace f:qx l w1:=f
   have m:=((qa U).new f).row
   generalize (qi0.map (Value.int .u32)).toArray=X at m ⊢
   unfold zg;simp only[putL];go_simp
   exact⟨qbc.all _ _,f,rfl⟩
  ·intro qk w1 _
   unfold zg;simp only[putL];go_simp
   first | exact⟨rfl,rfl⟩ | rfl
  ·rintro qk w1 f ⟨i,-⟩
   replace f:qx l w1:=f
   replace i:qk 1 = .string s:=i
   unfold zg;simp only[putL];go_simp
   refine(qa HP w1).mono ?_
   rintro e w2 ⟨rfl,C⟩
   exact⟨_,rfl,qbc.all _ _,f.trans C,rfl⟩
  ·rintro qk w1 f ⟨i,p1,-⟩
   replace f:qx l w1:=f
   replace i:qk 0 = .agg (qi0.map (Value.int .u32)).toArray:=i
   replace p1:qk 2 = .string ps:=p1
   have o:=qb (qa HB w1 ((qa U).new f))
   generalize (qi0.map (Value.int .u32)).toArray=X at i o
   unfold zg;simp only[putL];go_simp
   refine(qa o).mono ?_
   rintro e w2 ⟨rfl,C⟩
   exact⟨_,rfl,qbc.all _ _,f.trans C,rfl⟩
  ·rintro qk w1 f ⟨i,-⟩
   replace f:qx l w1:=f
   replace i:qk 3 = .agg (J.map (Value.int .u32)).toArray:=i
   have o:=qb (qa HY w1)
   generalize (J.map (Value.int .u32)).toArray=X at i o
   unfold zg;simp only[putL];go_simp
   refine(qa o).mono ?_
   rintro e w2 ⟨rfl,C⟩
   exact⟨_,rfl,qbc.all _ _,f.trans C,rfl⟩
  ·rintro qk w1 f ⟨i,-⟩
   replace f:qx l w1:=f
   replace i:qk 4 = .agg (j.map (Value.int .u8)).toArray:=i
   have t:=R.upd f (fun h=>h)
   have y:=t.stOk (r:=j) (n:=32) (by simpa using qa D) (qa D)
   have v:=qb (t.setAll (r:=j) (by simpa using qa D))
   have H:=qb ((f.mono (T:=fun k=>k=w.heap.size) (fun _ _ h=>h.elim)).then ((Upd.refl (· = w.heap.size) w1).setCells 0 (j.map (Value.int .u8))) (fun _ _ h=>h))
   have V:(j.map (Value.int .u8)).toArray.toList=j.map (Value.int .u8):=rfl
   generalize N:(j.map (Value.int .u8)).toArray=cs at i y V
   generalize M:j.map (Value.int .u8)=cl at V v H
   clear N M t
   unfold zg;simp only[putL];go_simp
   exact⟨qbc.all _ _,⟨qa H,qa v⟩,rfl⟩
 ·intro qk w1 f hv
  clear hv
  replace f:Upd (fun k=>k=w.heap.size) l w1∧qa2 .u8 w1 w.heap.size j:=f
  obtain⟨H,T1,t⟩:=f
  simp only[putL]
  have nE:=P.then H (by intro q hq h;omega)
  go_wp2_with fail
  refine bodyPost_ret (results_cell_row rfl _ _ w.heap.size T1 _ _ _ rfl t Tryz.underlying28 rfl (by rw[List.size_toArray,List.length_map,qa D];exact Tryz.infoHash)) rfl ?_
  exact⟨by rw[qa I],nE⟩
end Go.Proofs.YtjpmomdechibmaaGreatDoor
namespace Go.Proofs.YtjpmomdechibmaaGreatDoor
open Go.RowKit
def qdf(w:World)(base:Nat)(v:Value)(xs:List Int):Prop :=
 ∃g cap f i,v = .slice (some ⟨g,0,none⟩) xs.length cap∧base≤g∧w.heap[g]? = some (.cells f 5 i)∧(i=(0,0)∨f.size≤i.1)∧xs.length≤cap∧f.size=cap∧f.toList.take xs.length=xs.map (Value.int .u8)
theorem qdf.shape{w:World}{base:Nat}{v:Value}{xs:List Int}(h:qdf w base v xs):∃a c,v = .slice (some a) xs.length c:=by
 obtain⟨g,cap,f,i,rfl,_⟩:=h
 exact⟨_,_,rfl⟩
theorem qdf.ge{w:World}{base:Nat}{v:Value}{xs:List Int}(h:qdf w base v xs){k:Nat}(f:v.ownBlock=some k):base≤k∧k<w.heap.size:=by
 obtain⟨g,cap,i,m,rfl,j,l,_⟩:=h
 simp[Value.ownBlock] at f
 subst f
 exact⟨j,zq l⟩
theorem qdf.upd{S:Nat→Prop}{w w':World}{base:Nat}{v:Value}{xs:List Int}(h:qdf w base v xs)(u:Upd S w w')(m:∀k,v.ownBlock=some k→¬S k):qdf w' base v xs:=by
 obtain⟨g,cap,f,l,i,j,o,r⟩:=h
 exact⟨g,cap,f,l,i,j,u.old o (m g (by rw[i];rfl)),r⟩
theorem qdf.ofO{w:World}{base:Nat}{v:Value}{xs:List Int}(h:qbs w base v xs)(t:0<xs.length):qdf w base v xs:=by
 rcases h.2 with ⟨rfl,e⟩ | ⟨g,cap,f,rfl,i,m,j,o,q,l⟩
 ·omega
 ·exact⟨g,cap,f,(0,0),rfl,i,m,.inl rfl,j,by omega,by simpa using l⟩
def qc7(s:ByteArray):List Int:=s.data.toList.map fun c=>(c.toNat:Int)
theorem qk5(s:ByteArray):(qc7 s).length=s.size:=by
 unfold qc7
 rw[List.length_map,Array.length_toList]
 rfl
theorem qdf.ofS(w:World)(s:ByteArray)(cap base:Nat)(g:base≤w.heap.size)(i:s.size≤cap) :
  qdf (w.drew.alloc (.cells (bytesRow s cap) 5 ((bytesRow s cap).size,(bytesRow s cap).size+1))) base (.slice (some ⟨w.heap.size,0,none⟩) s.size cap) (qc7 s):=by
 have f:(bytesRow s cap).size=cap:=by
  unfold bytesRow
  have:s.data.size=s.size:=rfl
  simp
  omega
 refine⟨w.heap.size,cap,bytesRow s cap,((bytesRow s cap).size,(bytesRow s cap).size+1),by rw[qk5],g,?_,.inr (Nat.le_refl _),by rw[qk5];exact i,f,?_⟩
 ·exact qi w.drew _
 ·unfold bytesRow qc7
  rw[Array.toList_append,List.take_append_of_le_length (by simp)]
  simp
  rw[List.take_of_length_le (by simp)]
  rfl
theorem qiq{J:Array Oper}{rest:List Oper}{o:Oper}{a:Act}{Q:Exit→Act→World→Prop}(F:o.guard=none)(s x:Operand)
  (Z:o.op = .call {callee:= .builtin .append,args:=#[s,x],argTypes:=#[111,111]})
  (base:Nat) (v:Value) (xs:List Int) (hs:a.eval s=v) (c:Int) (T:TypeId) (w:World) (hx:a.eval x = .slice (some ⟨w.heap.size,0,none⟩) 1 1) (I:qdf w base v xs) (hl:xs.length≤1073741824) (hb:base≤w.heap.size)
  (h:∀L w',qdf w' base L (xs++[c])→Upd (fun k=>v.ownBlock=some k) w w'→wpList Tryz.prog J Q rest (a.put o.dst L) w') :
  wpList Tryz.prog J Q (o::rest) a (w.alloc (.cells #[.int .u8 c] T)):=by
 obtain⟨i,Y,V,l,W⟩:=info_parts Tryz.infoU8
 obtain⟨g,cap,f,M,rfl,e2,hg,K,e3,e4,X⟩:=I
 have t:(w.alloc (.cells #[.int .u8 c] T)).heap[g]? = some (.cells f 5 M):=zj hg _
 have z:∀j u,[Value.int .u8 c][j]? = some u→(w.alloc (.cells #[.int .u8 c] T)).cell? ((⟨w.heap.size,0,none⟩:Addr).add j)=some u:=by
  intro j u y
  have m:(⟨w.heap.size,0,none⟩:Addr).add j=⟨w.heap.size,j,none⟩:=by unfold Addr.add;split<;>simp_all
  rw[m,qg (qi _ _)]
  simpa using y
 have C:∀u∈[Value.int .u8 c],u.oneCell'=true:=by
  intro u hu
  obtain rfl:=List.mem_singleton.1 hu
  rfl
 by_cases q:xs.length+1≤cap
 ·refine wpList_append_room_src _ F s x 111 111 Z 5 i Tryz.underlying111 Y g 0 xs.length cap hs _ hx 1 [.int .u8 c] (Src.ofSlice _ Tryz.underlying111 ⟨w.heap.size,0,none⟩ 1 1 _ (by rw[l];rfl) z C) q ?_ ?_ ?_
  ·intro j y
   rw[qg t]
   simp only[List.length_cons,List.length_nil] at y
   rw[Array.getElem?_eq_getElem (by rw[l];omega)]
   rfl
  ·intro j y
   simp only[List.length_cons,List.length_nil] at y
   have a5:0+xs.length*i.size+j<f.size:=by rw[l];omega
   unfold World.frozen?
   rw[t]
   rcases K with rfl | K
   ·simp
   ·obtain⟨lo,a4⟩:=M
    simp only at K ⊢
    rw[show decide (lo≤0+xs.length*i.size+j)=false by simpa using by omega]
    rfl
  ·refine h _ _ ⟨g,cap,f.setIfInBounds xs.length (.int .u8 c),M,by simp,e2,?_,by simpa using K,by simpa using q,by simpa using e4,?_⟩ ?_
   ·have:=zu t (0+xs.length*i.size) (.int .u8 c)
    rw[show 0+xs.length*i.size=xs.length by rw[l];omega] at this
    simpa [World.setCells,l] using this
   ·rw[List.length_append,List.map_append,Array.toList_setIfInBounds]
    simp only[List.length_cons,List.length_nil,List.map_cons,List.map_nil,Nat.zero_add]
    have U:xs.length<f.toList.length:=by
     have h9:f.toList.length=f.size:=Array.length_toList
     omega
    rw[List.take_add_one,List.take_set_of_le (Nat.le_refl _),X,List.getElem?_set_self U]
    rfl
   ·have u0:Upd (fun k=>(Value.slice (some ⟨g,0,none⟩) xs.length cap).ownBlock=some k) w (w.alloc (.cells #[.int .u8 c] T)):=(Upd.refl _ _).alloc _
    simp only[World.setCells]
    exact u0.setCell (p:=⟨g,0+xs.length*i.size,none⟩) (fun _=>rfl) _
 ·refine wpList_append_grows _ F s x 111 Z 5 i (.int .u8 0) 1 1 Tryz.underlying111 Y V l W rfl (by decide) (some ⟨g,0,none⟩) xs.length cap (xs.map (Value.int .u8)) hs (fun h=>by cases h) (by simp) ?_ ⟨w.heap.size,0,none⟩ 1 1 [.int .u8 c] hx rfl z C (by omega) (by unfold maxLen;omega) (by omega) ?_
  ·intro b O j u y
   obtain rfl:(⟨g,0,none⟩:Addr)=b:=Option.some.inj O
   have R:j<xs.length:=by
    have:=(List.getElem?_eq_some_iff.1 y).1
    simpa using this
   have m:(⟨g,0,none⟩:Addr).add j=⟨g,j,none⟩:=by unfold Addr.add;split<;>simp_all
   rw[m,qg t,←Array.getElem?_toList]
   rw[←X,List.getElem?_take_of_lt R] at y
   exact y
  ·intro L w' H P
   refine h L w' (qdf.ofO (xs:=xs++[c]) ?_ (by simp)) ((((Upd.refl _ w).alloc _)).grown P (fun k e _=>by cases e))
   unfold qbs
   rw[List.length_append,List.map_append]
   refine⟨H.1,?_⟩
   rcases H.2 with N | ⟨g2,D,E,h1,N,h3⟩
   ·exact .inl N
   ·exact .inr ⟨g2,D,E,h1,by simp at N;omega,h3⟩
theorem qup{w:World}{base:Nat}{v:Value}{xs:List Int}(h:qdf w base v xs):(convert 111 9 v).run Tryz.prog w = .ok (.string (strOfNums xs)) w:=by
 obtain⟨g,cap,f,y,rfl,q,o,z,t,x,l⟩:=h
 refine run_convert_bytes_arg w 111 5 Tryz.underlying111 Tryz.underlying5 g 0 xs.length cap xs rfl (fun i j=> ?_) 9 Tryz.underlying9
 have m:f.toList[i]? = (xs.map (Value.int .u8))[i]? := by rw[←l,List.getElem?_take_of_lt (by omega)]
 rw[Nat.zero_add,qg o i,←Array.getElem?_toList,m,List.getElem?_map,List.getElem?_eq_getElem j]
 simp[List.getD,List.getElem?_eq_getElem j]
def zcs(n:Nat)(f:Nat):List Int:=(List.range f).map fun k=>(n:Int) / 2 ^ (8*(f-1-k))%256
theorem q7d(n f:Nat):(zcs n f).length=f:=by simp[zcs]
def qdj(n f:Nat):ByteArray:=strOfNums (zcs n f)
theorem qgf(n f:Nat):(qdj n f).size=f:=by unfold qdj;rw[strOfNums_size,q7d]
def Wr(w:World)(g:Nat)(s:ByteArray):Prop:=w.heap[g]? = some (.cells #[.string s] 154 (0,0))
theorem Wr.new{w w':World}{g:Nat}{s:ByteArray}(h:Wr w g s)(n:qx w w'):Wr w' g s:=n.old h (fun h=>h)
theorem Wr.lt{w:World}{g:Nat}{s:ByteArray}(h:Wr w g s):g<w.heap.size:=zq h
def qg1(w:World)(b:Nat)(ws:List Int):Prop:=∃T,w.heap[b]? = some (.cells (ws.map (Value.int .u8)).toArray T (0,0))
def qua(n f m:Nat):List Int:=(List.range m).map fun k=>(n:Int) / 2 ^ (8*(f-1-k))%256
set_option maxRecDepth 100000 in
set_option maxHeartbeats 1000000 in
theorem qzp(g n f:Nat)(s:ByteArray)(w:World)(hg:Wr w g s)(b4:1≤f)(b5:f≤8)(hn:n<2 ^ (8*f))(hs:s.size≤1073741824) :
  Calls Tryz.prog 86 #[.pointer (some ⟨g,0,none⟩),.int .u64 n,.int .i64 f] w fun e w'=>e = .returned (.int .i64 0)∧Upd (fun k=>k=g) w w'∧Wr w' g (s++qdj n f):=by
 have j:n<18446744073709551616:=Nat.lt_of_lt_of_le hn (by
  have:(2:Nat) ^ (8*f)≤2 ^ 64:=Nat.pow_le_pow_right (by decide) (by omega)
  exact this)
 have W:(n:Int) / 2 ^ (8*f)=0:=by
  refine Int.ediv_eq_zero_of_lt (by omega) ?_
  exact_mod_cast hn
 have a7:(1:Int)≤f:=by omega
 have a8:(f:Int)≤8:=by omega
 have Y:(8*(f:Int)).toNat=8*f:=by omega
 have C:decide ((f:Int)<1)=false:=by simp;omega
 have R:decide ((8:Int)<(f:Int))=false:=by simp;omega
 have D:¬(f:Int)<1:=by omega
 have z:¬(8:Int)<(f:Int):=by omega
 have t:(n:Int)<18446744073709551616:=by omega
 go_enter Tryz.func86,Tryz.ntmps86
 go_wp2_with fail
 clear W Y C R D z
 have a9:=hg.lt
 go_loopw [7,8] (fun bv Z wr=>∃(m:Nat) (a:Option Addr) (c:Nat),Z = .int .i64 ((f:Int)-1-(m:Int))∧m≤f∧bv = .slice a m c∧Hid (qbs wr w.heap.size bv (qua n f m))∧Upd (fun k=>w.heap.size≤k) w wr) (fun _ Z _=>(intOf Z+1).toNat)
 case atStart=>exact⟨0,_,_,by simp,Nat.zero_le _,rfl,qb (qbs.nil _ _),Upd.refl _ _⟩
 case round =>
  obtain⟨m,a,c,rfl,hm,rfl,L,K⟩:=hrel
  by_cases C:m<f
  ·have b3:(m:Int)<(f:Int):=by omega
   have hb:=K.size
   have ht:(8*((f:Int)-1-(m:Int))).toNat=8*(f-1-m):=by omega
   have V:∀k:Nat,(n:Int) / 2 ^ k<18446744073709551616∧0≤(n:Int) / 2 ^ k:=fun k=>by
    have V:(1:Int)≤2 ^ k:=Int.pow_pos (by decide)
    exact⟨Int.lt_of_le_of_lt (Int.ediv_le_self _ (by omega)) t,Int.ediv_nonneg (by omega) (by omega)⟩
   obtain⟨q1,q0⟩:=V (8*(f-1-m))
   have X:IntKind.u64.wrap ((n:Int) / 2 ^ (8*(f-1-m)))=(n:Int) / 2 ^ (8*(f-1-m)):=by rw[IntKind.wrap_u64];omega
   have a4:=qb (And.intro j t)
   have F:(qua n f m).length≤1073741824:=by simp[qua];omega
   have H:qua n f (m+1)=qua n f m++[(n:Int) / 2 ^ (8*(f-1-m))%256]:=by unfold qua;rw[List.range_succ,List.map_append];rfl
   have l:(qua n f (m+1)).length=m+1:=by simp[qua]
   have v:=qb H
   have O:=qb l
   have U:0≤(f:Int)-1-(m:Int):=by omega
   clear V H l q1 j t
   go_wp2_with (at_builtin;refine qjt rfl (.tmp 28) (.tmp 34) rfl w.heap.size _ _ rfl _ _ _ rfl (qa L) F hb ?_)
   intro v' w5 i u5
   have u6:=K.then u5 (fun q _ h=>((qa L).ge h).1)
   rw[←qa v] at i
   obtain⟨a5,c5,rfl⟩:=i.shape
   rw[qa O] at i ⊢
   have N:=qb i
   clear i u5 L v q0 F ht U X
   go_wp2
   go_roundw
   case rel=>exact⟨m+1,a5,c5,by congr 1;omega,by omega,rfl,N,u6⟩
   case measure=>simp[intOf];omega
  ·obtain rfl:m=f:=by omega
   rw[show (m:Int)-1-(m:Int) = -1 by omega]
   have J:=qkc (((qa L).upd ((Upd.refl (fun _=>False) wr).drew) (fun _ _ h=>h)))
   have o:=K.old hg (fun h=>by omega)
   have c0:=qg o 0
   have z0:=qm o 0
   simp at c0
   have E:strOfNums (qua n m m)=qdj n m:=rfl
   rw[E] at J
   have hq:=qgf n m
   generalize I:qdj n m=q at J hq ⊢
   have P:=qb I
   clear I
   have x:=zu o 0 (.string (s++q))
   have nW:qx w wr:=Upd.of_below (K.below' (Nat.le_refl _) (fun _ h=>h)) (Nat.le_refl _)
   have uW:Upd (fun k=>k=g) w (wr.setCell ⟨g,0,none⟩ (.string (s++q))):=(nW.mono (T:=fun k=>k=g) (fun _ _ h=>h.elim)).set1 0 _
   have M:=qb x
   clear x nW K
   clear E
   have a6:¬9223372036854775807<s.size+m:=by omega
   go_wp2_with fail
   go_region_law (fail)
   all_goals
    have y:=qa M
    generalize wr.setCell ⟨g,0,none⟩ (.string (s++q))=wS at y uW ⊢
    go_wp2
    go_ret
    exact⟨rfl,uW.drew,by rw[qa P];exact y⟩
theorem qg1.drew{w:World}{b:Nat}{ws:List Int}(h:qg1 w b ws):qg1 w.drew b ws:=h
theorem qdq{w:World}{b:Nat}{xs:List Int}(h:qg1 w b xs)(n:Nat)(f:xs.length=n):(convert 111 9 (.slice (some ⟨b,0,none⟩) n n)).run Tryz.prog w = .ok (.string (strOfNums xs)) w:=by
 obtain⟨T,h⟩:=h
 exact qeb w 111 9 5 Tryz.underlying111 Tryz.underlying5 Tryz.underlying9 b n xs T (0,0) n f h
set_option maxRecDepth 100000 in
set_option maxHeartbeats 1000000 in
theorem q6b(g:Nat)(h:List Int)(s:ByteArray)(w:World)(y:Wr w g s)(z:h.length=32)(K:s.size≤1073741824) :
  Calls Tryz.prog 88 #[.pointer (some ⟨g,0,none⟩),.agg (h.map (Value.int .u8)).toArray] w fun e w'=>e = .returned (.tuple #[])∧Upd (fun k=>k=g) w w'∧Wr w' g (s++strOfNums h):=by
 have J:(strOfNums h).size=32:=by rw[strOfNums_size,z]
 generalize l:(h.map (Value.int .u8)).toArray=D
 go_enter Tryz.func88,Tryz.ntmps88
 go_upto_region 1 with fail
 have x:qg1 (w.alloc (.cells D 28)) w.heap.size h:=⟨_,by rw[l];exact qi _ _⟩
 have o:qx w (w.alloc (.cells D 28)):=(Upd.refl _ _).alloc _
 have I:=y.lt
 have f:=y.new o
 generalize w.alloc (.cells D 28)=w1 at x o f ⊢
 have C:=qdq (x.drew) 32 z
 have H:=qg f 0
 have M:=qm f 0
 simp at H
 generalize m:strOfNums h=q at C J
 have v:=qb m
 have i:=zu f 0 (.string (s++q))
 have F:Upd (fun k=>k=g) w (w1.setCell ⟨g,0,none⟩ (.string (s++q))):=(o.mono (T:=fun k=>k=g) (fun _ _ h=>h.elim)).set1 0 _
 have t:=qb i
 have E:¬9223372036854775807<s.size+32:=by omega
 clear m i o x l f y z
 go_region_law (fail)
 all_goals
  have j:=qa t
  generalize w1.setCell ⟨g,0,none⟩ (.string (s++q))=L at j F ⊢
  go_end0
  exact⟨rfl,F.drew,by rw[qa v];exact j⟩
set_option maxHeartbeats 1000000 in
theorem qym(g:Nat)(s:ByteArray)(w:World)(f:Wr w g s) :
  Calls Tryz.prog 89 #[.pointer (some ⟨g,0,none⟩)] w fun e w'=>e = .returned (.string s)∧w=w':=by
 have i:=qg f 0
 simp at i
 clear f
 go_enter Tryz.func89,Tryz.ntmps89
 go_wp2
 go_ret
 exact⟨rfl,rfl⟩
end Go.Proofs.YtjpmomdechibmaaGreatDoor
