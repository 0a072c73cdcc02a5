/-
  Words of our own on worlds: 'Upd S w w'': the streams are as they were, no block has gone, and each old block outside S holds what it held.
-/
import Derived.WalkKit
import Derived.WalkSpells
import Derived.WalkLawsBesides
import Derived.BigQuiet
import Derived.Lib.Hide
import Derived.Deep.MidRow
import Derived.Test.YtfmkdoachjgjbaaGreatDoorProg
import Derived.Lib.LazyBuf
set_option maxRecDepth 100000
set_option maxHeartbeats 1000000
set_option linter.unusedVariables false
set_option linter.unusedSimpArgs false
namespace Go.Proofs.YtfmkdoachjgjbaaGreatDoor
open Go.RowKit
theorem qj{p:Prop}(h:p):Hid p:=h
theorem qg{p:Prop}(h:Hid p):p:=h
structure Upd(S:Nat→Prop)(w w':World):Prop where
 os:w'.os=w.os
 tape:w'.tape=w.tape
 output:w'.output=w.output
 size:w.heap.size≤w'.heap.size
 block:∀k,k<w.heap.size→¬S k→w'.heap[k]? = w.heap[k]?
abbrev qq(w w':World):Prop:=Upd (fun _=>False) w w'
theorem Upd.refl(S:Nat→Prop)(w:World):Upd S w w:=⟨rfl,rfl,rfl,Nat.le_refl _,fun _ _ _=>rfl⟩
theorem Upd.trans{S:Nat→Prop}{a b c:World}(h:Upd S a b)(k:Upd S b c):Upd S a c :=
 ⟨k.os.trans h.os,k.tape.trans h.tape,k.output.trans h.output,Nat.le_trans h.size k.size,fun i m o=>(k.block i (Nat.lt_of_lt_of_le m h.size) o).trans (h.block i m o)⟩
theorem Upd.then{S T:Nat→Prop}{a b c:World}(h:Upd S a b)(k:Upd T b c)(q:∀i,i<a.heap.size→T i→S i):Upd S a c :=
 ⟨k.os.trans h.os,k.tape.trans h.tape,k.output.trans h.output,Nat.le_trans h.size k.size,fun i m o=>(k.block i (Nat.lt_of_lt_of_le m h.size) (fun t=>o (q i m t))).trans (h.block i m o)⟩
theorem Upd.mono{S T:Nat→Prop}{a b:World}(h:Upd S a b)(m:∀i,i<a.heap.size→S i→T i):Upd T a b :=
 (Upd.refl T a).then h m
theorem Upd.drew{S:Nat→Prop}{a w:World}(h:Upd S a w):Upd S a w.drew:=⟨h.os,h.tape,h.output,h.size,h.block⟩
theorem Upd.drewN{S:Nat→Prop}{a w:World}(h:Upd S a w)(n:Nat):Upd S a (w.drewN n):=⟨h.os,h.tape,h.output,h.size,h.block⟩
theorem Upd.alloc{S:Nat→Prop}{a w:World}(h:Upd S a w)(o:Obj):Upd S a (w.alloc o) :=
 ⟨h.os,h.tape,h.output,Nat.le_trans h.size (by simp),fun i m q=>(Below.heap_alloc w o i (Nat.lt_of_lt_of_le m h.size)).trans (h.block i m q)⟩
theorem Upd.setCell{S:Nat→Prop}{a w:World}(h:Upd S a w){p:Addr}(q:p.block<a.heap.size→S p.block)(u:Value):Upd S a (w.setCell p u) :=
 ⟨h.os,h.tape,h.output,by simpa [World.setCell] using h.size,fun i m o=>(Below.heap_setCell w p u i (by rintro rfl;exact o (q m))).trans (h.block i m o)⟩
theorem Upd.set1{a w:World}{b:Nat}(h:Upd (· = b) a w)(o:Nat)(u:Value):Upd (· = b) a (w.setCell ⟨b,o,none⟩ u):=h.setCell (fun _=>rfl) u
theorem Upd.grown{S:Nat→Prop}{a w w':World}{row:Option Nat}(h:Upd S a w)(m:w.grownBy w' row)(t:∀k,row=some k→k<a.heap.size→S k):Upd S a w' :=
 ⟨m.os.trans h.os,m.tape.trans h.tape,m.output.trans h.output,Nat.le_trans h.size m.size,
  fun i o q=>(m.block i (Nat.lt_of_lt_of_le o h.size) (fun e=>q (t i e.symm o))).trans (h.block i o q)⟩
theorem Upd.below{B:Nat}{a w:World}(h:Upd (fun k=>B≤k) a w)(i:B≤a.heap.size):Below B a w :=
 ⟨h.os,h.tape,h.output,h.size,fun k m=>h.block k (by omega) (by omega)⟩
theorem Upd.below'{S:Nat→Prop}{B:Nat}{a w:World}(h:Upd S a w)(o:B≤a.heap.size)(i:∀k,S k→B≤k):Below B a w :=
 ⟨h.os,h.tape,h.output,h.size,fun k q=>h.block k (by omega) (fun m=>by have:=i k m;omega)⟩
theorem Upd.of_below{B:Nat}{a w:World}(h:Below B a w)(i:a.heap.size≤B):qq a w :=
 ⟨h.os,h.tape,h.output,h.size,fun k m _=>h.block k (by omega)⟩
theorem Upd.old{S:Nat→Prop}{a w:World}(h:Upd S a w){k:Nat}{o:Obj}(i:a.heap[k]? = some o)(m:¬S k):w.heap[k]? = some o :=
 (h.block k (Array.getElem?_eq_some_iff.1 i).1 m).trans i
theorem Upd.cell{S:Nat→Prop}{a w:World}(h:Upd S a w){p:Addr}{v:Value}(i:a.cell? p=some v)(m:¬S p.block):w.cell? p=some v :=
 (World.cell?_of_block (h.block p.block (World.block_lt_of_cell? a p i) m)).trans i
def Q(w w':World):Prop:=∃n,w'=w.drewN n
theorem Q.refl(w:World):Q w w:=⟨0,rfl⟩
theorem Q.drewN(w:World)(n:Nat):Q w (w.drewN n):=⟨n,rfl⟩
theorem Q.drewN'{w w':World}(h:Q w w')(n:Nat):Q w (w'.drewN n):=by
 obtain⟨m,rfl⟩:=h;exact⟨m+n,by rw[World.drewN_drewN]⟩
theorem Q.trans{a b c:World}(h:Q a b)(k:Q b c):Q a c:=by
 obtain⟨m,rfl⟩:=k;exact h.drewN' m
theorem Q.heap{w w':World}(h:Q w w'):w'.heap=w.heap:=by
 obtain⟨m,rfl⟩:=h;rfl
theorem Q.upd{w w':World}(h:Q w w')(S:Nat→Prop):Upd S w w':=by
 obtain⟨m,rfl⟩:=h;exact(Upd.refl S w).drewN m
theorem Q.old{w w':World}(h:Q w w'){k:Nat}{o:Obj}(i:w.heap[k]? = some o):w'.heap[k]? = some o:=by rw[h.heap];exact i
theorem Q.cell{w w':World}(h:Q w w'){p:Addr}{v:Value}(i:w.cell? p=some v):w'.cell? p=some v:=by
 obtain⟨m,rfl⟩:=h;exact i
theorem Q.frozen{w w':World}(h:Q w w'){p:Addr}{v:Bool}(i:w.frozen? p=v):w'.frozen? p=v:=by
 obtain⟨m,rfl⟩:=h;exact i
def qae(v:Value)(w:World)(e:Ending)(w':World):Prop:=e = .returned v∧Q w w'
def qar(v:Value)(w:World)(e:Ending)(w':World):Prop:=e = .returned v∧qq w w'
theorem zi{w:World}{b:Nat}{o:Obj}(h:w.heap[b]? = some o):b<w.heap.size:=(Array.getElem?_eq_some_iff.1 h).1
theorem qk{w:World}{b:Nat}{cs:Array Value}{T:TypeId}{m:Nat × Nat}(h:w.heap[b]? = some (.cells cs T m))(i:Nat):w.cell? ⟨b,i,none⟩=cs[i]? := by
 simp[World.cell?,h]
theorem qo{w:World}{b:Nat}{cs:Array Value}{T:TypeId}(h:w.heap[b]? = some (.cells cs T (0,0)))(i:Nat):w.frozen? ⟨b,i,none⟩=false:=by
 simp[World.frozen?,h]
theorem zq{w:World}{b:Nat}{cs:Array Value}{T:TypeId}{m:Nat × Nat}(h:w.heap[b]? = some (.cells cs T m))(i:Nat)(v:Value) :
  (w.setCell ⟨b,i,none⟩ v).heap[b]? = some (.cells (cs.setIfInBounds i v) T m):=by
 simp[World.setCell,Array.getElem?_modify,h]
theorem ql(w:World)(o:Obj):(w.alloc o).heap[w.heap.size]? = some o:=heap_alloc_new w o
theorem qx{w:World}{b:Nat}{o:Obj}(h:w.heap[b]? = some o)(x:Obj):(w.alloc x).heap[b]? = some o :=
 (Below.heap_alloc w x b (zi h)).trans h
def bt(s:ByteArray)(n:Nat):Int:=(s.data.toList.getD n 0).toNat
theorem qf3(s:ByteArray)(n:Nat):0≤bt s n∧bt s n≤255:=by
 unfold bt;have:=(s.data.toList.getD n 0).toNat_lt;omega
theorem q2r(s:ByteArray)(n:Nat)(h:n<s.size):(s[n].toNat:Int)=bt s n:=by
 have i:n<s.data.size:=h;unfold bt;rw[List.getD_eq_getElem?_getD,Array.getElem?_toList,Array.getElem?_eq_getElem i];rfl
theorem qey{P:Program}(t:TypeId)(s:ByteArray)(k:IntKind)(i:Int)(n:Nat)(h:P.underlying t=some .string)(m:i=n)(o:n<s.size)(w:World) :
  (Instr.index t (.string s) (.int k i)).run P w = .ok (.int .u8 (bt s n)) w:=by
 subst m
 rw[run_index_string w t s k _ h,dif_pos (by omega),←q2r s n o]
 rfl
theorem qmm(n:Nat)(h:n<9223372036854775808):IntKind.i64.wrap (n:Int)=n:=by
 simp[IntKind.wrap,IntKind.bits,IntKind.signed];split<;>omega
theorem qeo(n:Nat)(h:n<18446744073709551616):(BitVec.ofInt 64 (n:Int)).toNat=n:=by
 simp[BitVec.ofInt];omega
theorem or8(x y:Int)(m:0≤x)(q:x≤255)(o:0≤y)(t:y≤255):bits .or .i64 (x*256) y=x*256+y:=by
 obtain⟨a,rfl⟩:=Int.eq_ofNat_of_zero_le m;obtain⟨b,rfl⟩:=Int.eq_ofNat_of_zero_le o;have e:(a:Int)*256=((a*256:Nat):Int):=by omega
 rw[e];show IntKind.i64.wrap ((BitVec.ofInt 64 ((a*256:Nat):Int) ||| BitVec.ofInt 64 (b:Int)).toNat:Int)=_;rw[BitVec.toNat_or,qeo _ (by omega),qeo _ (by omega)];have h:=Nat.shiftLeft_add_eq_or_of_lt (b:=b) (i:=8) (by omega) a;rw[Nat.shiftLeft_eq] at h;rw[show a*256=a*2 ^ 8 from rfl,←h,qmm _ (by omega)];omega
theorem qdd{P:Program}(w:World)(src dst e:TypeId)(v:P.underlying src=some (.slice e))(q:P.underlying e=some (.int .u8))(hd:P.underlying dst=some .string)
  (b cap:Nat) (xs:List Int) (T:TypeId) (m:Nat × Nat) (n:Nat) (t:xs.length=n) (o:w.heap[b]? = some (.cells (xs.map (Value.int .u8)).toArray T m)) :
  (convert src dst (.slice (some ⟨b,0,none⟩) n cap)).run P w = .ok (.string (strOfNums xs)) w:=by
 refine run_convert_bytes_arg w src e v q b 0 n cap xs t (fun i x=> ?_) dst hd
 rw[Nat.zero_add,qk o i,List.getElem?_toArray,List.getElem?_map,List.getElem?_eq_getElem (by omega)]
 simp[List.getD,List.getElem?_eq_getElem (show i<xs.length by omega)]
theorem qod{P:Program}(src dst e:TypeId)(m:P.underlying src=some (.slice e))(i:P.underlying e=some (.int .u8))(hd:P.underlying dst=some .string)(T:TypeId)(w:World)(x y:Int) :
  (convert src dst (.slice (some ⟨w.heap.size,0,none⟩) 2 2)).run P (w.alloc (.cells #[.int .u8 x,.int .u8 y] T)) = .ok (.string (strOfNums [x,y])) (w.alloc (.cells #[.int .u8 x,.int .u8 y] T)) :=
 qdd _ src dst e m i hd _ _ [x,y] T (0,0) 2 rfl (ql _ _)
theorem q5x{s:ByteArray}(h:0<s.size):s.toList.isEmpty=false:=by
 rw[List.isEmpty_eq_false_iff];intro e;rw[ByteArray.toList_eq] at e;have i:s.data.toList.length=0:=by rw[e];rfl
 rw[Array.length_toList] at i;have m:0<s.data.size:=h;omega
def zt(w:World)(b o n:Nat):Option (Array Value) :=
 match w.heap[b]? with
 | some (.cells C _ _)=>if o+n≤C.size then some (C.extract o (o+n)) else none
 | _=>none
def qc3(P:Program)(i:TypeId)(w:World)(b o:Nat):Result Value:=(loadVar i ⟨b,o,none⟩).run P w
theorem qgm{w:World}{b o n:Nat}{A:Array Value}(h:zt w b o n=some A):A.size=n∧∀j,j<n→w.cell? ⟨b,o+j,none⟩=A[j]? := by
 unfold zt at h;cases i:w.heap[b]? with
 | none=>rw[i] at h;cases h
 | some q =>
  rw[i] at h;cases q with
  | cells C T t =>
   simp only at h;split at h
   ·rename_i m;injection h with h;subst h;refine⟨by simp;omega,fun j v=> ?_⟩;rw[qk i,Array.getElem?_extract,if_pos (by omega)]
   ·cases h
  | _=>cases h
theorem qsg{w:World}{b o n:Nat}{A:Array Value}(h:zt w b o n=some A):w.rangeAt b o A.toList:=by
 obtain⟨t,m⟩:=qgm h;intro j v i;rw[Array.getElem?_toList] at i;have q:j<n:=by
  have:=(Array.getElem?_eq_some_iff.1 i).1;omega
 rw[m j q,i]
theorem qby{w:World}{b:Nat}{C:Array Value}{T:TypeId}{i:Nat × Nat}(h:w.heap[b]? = some (.cells C T i))(o n:Nat)(m:o+n≤C.size):zt w b o n=some (C.extract o (o+n)):=by
 unfold zt;rw[h];simp only;rw[if_pos m]
theorem qaj{w:World}{b:Nat}{C:Array Value}{T:TypeId}{i:Nat × Nat}(h:w.heap[b]? = some (.cells C T i))(n:Nat)(m:C.size=n):zt w b 0 n=some C:=by
 rw[qby h 0 n (by omega)];simp[←m]
theorem qqj{w w':World}(b:Nat)(h:w'.heap[b]? = w.heap[b]?)(o n:Nat):zt w' b o n=zt w b o n:=by unfold zt;rw[h]
theorem qbg{S:Nat→Prop}{w w':World}{b o n:Nat}{A:Array Value}(h:zt w b o n=some A)(u:Upd S w w')(m:¬S b):zt w' b o n=some A:=by
 rw[qqj b (u.block b ?_ m)]
 ·exact h
 ·by_cases i:b<w.heap.size
  ·exact i
  ·have e:w.heap[b]? = none:=by simp;omega
   unfold zt at h;rw[e] at h;cases h
theorem zaa{w w':World}{b o n:Nat}{A:Array Value}(h:zt w b o n=some A)(q:Q w w'):zt w' b o n=some A:=by
 rw[qqj (w:=w) b (by rw[q.heap])];exact h
theorem qag{P:Program}(i n:Nat)(d:TypeDesc)(q:P.underlying i=some d)(hd:d.isRow=true)(m:(P.info? i).map (·.size)=some n)(b o:Nat)(w:World) :
  (Instr.loadAt i (.pointer (some ⟨b,o,none⟩))).run P w=match zt w b o n with | some A=> .ok (.agg A) w | none=>qc3 P i w b o:=by
 cases h:zt w b o n with
 | none =>
  simp only[Instr.loadAt,Instr.sureAddr,Sem.run_bind,Sem.run_pure,Result.andThen_ok,qc3]
 | some A =>
  simp only;rw[run_loadAt_mid w b o i A.toList d (qsg h) q hd (by rw[m,Array.length_toList,(qgm h).1])]
def stOk(w:World)(b o n:Nat)(A:Array Value):Bool :=
 (match w.heap[b]? with | some (.cells C _ i)=>decide (o+n≤C.size)&&decide (i=(0,0)) | _=>false)&&decide (A.size=n)&&A.all (·.oneCell')
def qes(P:Program)(i:TypeId)(w:World)(b o:Nat)(A:Array Value):Result Unit:=(Instr.storeAt i (.pointer (some ⟨b,o,none⟩)) (.agg A)).run P w
theorem qd4{w:World}{b:Nat}{C:Array Value}{T:TypeId}(h:w.heap[b]? = some (.cells C T (0,0))){o n:Nat}(q:o+n≤C.size){A:Array Value}(m:A.size=n)(i:A.all (·.oneCell')=true):stOk w b o n A=true:=by
 unfold stOk;rw[h];simp only[i,Bool.and_true];simp[q,m]
theorem qxh{w:World}{b o n:Nat}{A:Array Value}(h:stOk w b o n A=true):w.there b o A.size∧A.size=n∧A.all (·.oneCell')=true:=by
 unfold stOk at h;cases i:w.heap[b]? with
 | none=>rw[i] at h;simp at h
 | some t =>
  rw[i] at h;cases t with
  | cells C T v =>
   simp only[Bool.and_eq_true,decide_eq_true_eq] at h;obtain⟨⟨⟨x,rfl⟩,m⟩,q⟩:=h;refine⟨fun j y=>⟨?_,qo i _⟩,m,q⟩;rw[qk i,Array.getElem?_eq_getElem (by omega)];rfl
  | _=>simp at h
theorem qaz{P:Program}(i n:Nat)(v:(P.info? i).map (·.size)=some n)(b o:Nat)(A:Array Value)(w:World) :
  (Instr.storeAt i (.pointer (some ⟨b,o,none⟩)) (.agg A)).run P w=if stOk w b o n A=true then .ok () (w.setCells b o A.toList) else qes P i w b o A:=by
 by_cases h:stOk w b o n A=true
 ·rw[if_pos h];obtain⟨m,q,t⟩:=qxh h;exact run_storeAt_mid w b o i A m (by rw[v,q]) t
 ·rw[if_neg h];rfl
def qhz(C:Array Value)(o:Nat):List Value→Array Value
 | []=>C
 | v::r=>qhz (C.setIfInBounds o v) (o+1) r
theorem qax{w:World}{b:Nat}{C:Array Value}{T:TypeId}{m:Nat × Nat}(h:w.heap[b]? = some (.cells C T m))(o:Nat)(i:List Value):(w.setCells b o i).heap[b]? = some (.cells (qhz C o i) T m):=by
 induction i generalizing w C o with
 | nil=>exact h
 | cons v r q=>exact q (zq h o v) (o+1)
theorem qwh(C:Array Value)(o:Nat)(i:List Value):(qhz C o i).size=C.size:=by
 induction i generalizing C o with
 | nil=>rfl
 | cons v r m=>rw[qhz,m,Array.size_setIfInBounds]
theorem qig(C:Array Value)(o:Nat)(m:List Value)(i:Nat)(h:o+m.length≤C.size):(qhz C o m)[i]? = if o≤i∧i<o+m.length then m[i-o]? else C[i]? := by
 induction m generalizing C o with
 | nil=>simp[qhz];intro q t;omega
 | cons v r w =>
  rw[qhz,w _ _ (by simp only[List.length_cons] at h;rw[Array.size_setIfInBounds];omega)];simp only[List.length_cons] at h ⊢;by_cases q:o+1≤i∧i<o+1+r.length
  ·rw[if_pos q,if_pos (by omega)];obtain⟨k,rfl⟩:∃k,i=o+1+k:=⟨i-(o+1),by omega⟩;rw[show o+1+k-(o+1)=k by omega,show o+1+k-o=k+1 by omega,List.getElem?_cons_succ]
  ·rw[if_neg q,Array.getElem?_setIfInBounds];by_cases t:o=i
   ·subst t;rw[if_pos rfl,if_pos (by omega),if_pos (by omega)];simp
   ·rw[if_neg t,if_neg (by omega)]
theorem Upd.setCells{w w':World}{b:Nat}(h:Upd (· = b) w w')(o:Nat)(i:List Value):Upd (· = b) w (w'.setCells b o i):=by
 induction i generalizing w' o with
 | nil=>exact h
 | cons v r m=>exact m (h.set1 o v) (o+1)
theorem qy(w:World)(b o n:Nat):zt w.drew b o n=zt w b o n:=rfl
structure Htlc where
 id:Int
 amount:Int
 hash:Vector Int 32
 expiry:Int
structure Live where
 h:Htlc
 own:Bool
 state:Int
 paid:Bool
structure Item where
 offered:Bool
 h:Htlc
def qv(h:Htlc):List Value:= .int .u64 h.id :: .int .u64 h.amount::(h.hash.toList.map (Value.int .u8)++[.int .i64 h.expiry])
def qm(x:Live):List Value:=qv x.h++[.bool x.own,.int .i64 x.state,.bool x.paid]
def zk(x:Item):List Value:= .bool x.offered::qv x.h
structure HtlcOk(h:Htlc):Prop where
 id:0≤h.id∧h.id≤18446744073709551615
 amount:0≤h.amount∧h.amount≤18446744073709551615
 hash:∀n∈h.hash.toList,0≤n∧n≤255
 expiry : -9223372036854775808≤h.expiry∧h.expiry≤9223372036854775807
structure LiveOk(x:Live):Prop where
 h:HtlcOk x.h
 state : -9223372036854775808≤x.state∧x.state≤9223372036854775807
theorem qba(h:Htlc):(qv h).length=35:=by simp[qv]
theorem qbb(x:Live):(qm x).length=38:=by simp[qm,qba]
theorem qbx(x:Item):(zk x).length=36:=by simp[zk,qba]
theorem qr1(x:Live):(qm x)[0]? = some (.int .u64 x.h.id):=rfl
theorem qwn(x:Live):(qm x)[1]? = some (.int .u64 x.h.amount):=rfl
theorem qee(x:Live):(qm x)[35]? = some (.bool x.own):=by
 unfold qm;rw[List.getElem?_append_right (by rw[qba];omega),qba];rfl
theorem qew(x:Live):(qm x)[36]? = some (.int .i64 x.state):=by
 unfold qm;rw[List.getElem?_append_right (by rw[qba];omega),qba];rfl
theorem qjk(x:Live):(qm x)[37]? = some (.bool x.paid):=by
 unfold qm;rw[List.getElem?_append_right (by rw[qba];omega),qba];rfl
theorem qhx(h:Htlc):∀v∈qv h,v.oneCell'=true:=by
 intro v i;simp only[qv,List.mem_cons,List.mem_append,List.mem_map,List.not_mem_nil,or_false] at i;rcases i with rfl | rfl | ⟨n,_,rfl⟩ | rfl<;>rfl
theorem qno(x:Item):∀v∈zk x,v.oneCell'=true:=by
 intro v i;rcases List.mem_cons.1 i with rfl | i
 ·rfl
 ·exact qhx _ v i
theorem Tryz.infoLive:(Tryz.prog.info? 69).map (·.size)=some 38:=by kernel_rfl
theorem Tryz.infoHtlc:(Tryz.prog.info? 41).map (·.size)=some 35:=by kernel_rfl
def q4i(x:Value):Sem Value:=Instr.loadAt 69 x
theorem qa5(x:Value):Instr.loadAt 69 x=q4i x:=rfl
theorem qc5(b o:Nat)(w:World):(q4i (.pointer (some ⟨b,o,none⟩))).run Tryz.prog w=match zt w b o 38 with | some A=> .ok (.agg A) w | none=>qc3 Tryz.prog 69 w b o :=
 qag 69 38 _ Tryz.underlying69 rfl Tryz.infoLive b o w
def q4g(x:Value):Sem Value:=Instr.loadAt 41 x
theorem qr0(x:Value):Instr.loadAt 41 x=q4g x:=rfl
theorem q7l(b o:Nat)(w:World):(q4g (.pointer (some ⟨b,o,none⟩))).run Tryz.prog w=match zt w b o 35 with | some A=> .ok (.agg A) w | none=>qc3 Tryz.prog 41 w b o :=
 qag 41 35 _ Tryz.underlying41 rfl Tryz.infoHtlc b o w
def q5s(x v:Value):Sem Unit:=Instr.storeAt 69 x v
theorem qbd(x v:Value):Instr.storeAt 69 x v=q5s x v:=rfl
theorem qdo(b o:Nat)(A:Array Value)(w:World):(q5s (.pointer (some ⟨b,o,none⟩)) (.agg A)).run Tryz.prog w=if stOk w b o 38 A=true then .ok () (w.setCells b o A.toList) else qes Tryz.prog 69 w b o A :=
 qaz 69 38 Tryz.infoLive b o A w
def qdy(w:World)(g off:Nat)(xs:List Live):Prop :=
 ∃C T m,w.heap[g]? = some (.cells C T m)∧off+xs.length*38≤C.size∧∀i x,xs[i]? = some x→∀j,j<38→C[off+i*38+j]? = (qm x)[j]?
theorem qdy.row{w:World}{g off:Nat}{xs:List Live}(h:qdy w g off xs){i:Nat}{x:Live}(q:xs[i]? = some x):zt w g (off+i*38) 38=some (qm x).toArray:=by
 obtain⟨C,T,z,t,D,v⟩:=h;have o:i<xs.length:=(List.getElem?_eq_some_iff.1 q).1;have m:off+i*38+38≤C.size:=by have:=Nat.mul_le_mul_right 38 (show i+1≤xs.length from o);omega
 rw[qby t _ _ m];congr 1;apply Array.ext';apply List.ext_getElem?;intro j;rw[Array.getElem?_toList,Array.getElem?_extract];by_cases y:j<38
 ·rw[if_pos (by omega),v i x q j y]
 ·rw[if_neg (by omega),List.getElem?_eq_none (by rw[qbb];omega)]
theorem qdy.upd{S:Nat→Prop}{w w':World}{b off:Nat}{xs:List Live}(h:qdy w b off xs)(u:Upd S w w')(o:¬S b):qdy w' b off xs:=by
 obtain⟨C,T,i,m,r⟩:=h;exact⟨C,T,i,u.old m o,r⟩
theorem qdy.lt{w:World}{g off:Nat}{xs:List Live}(h:qdy w g off xs):g<w.heap.size:=by
 obtain⟨C,T,m,i,r⟩:=h;exact zi i
def qf0(w:World)(v:Value)(xs:List Live):Prop:=(∃a c,v = .slice a 0 c∧xs=[])∨∃g off cap,v = .slice (some ⟨g,off,none⟩) xs.length cap∧qdy w g off xs
theorem qf0.new{w w':World}{v:Value}{xs:List Live}(h:qf0 w v xs)(u:qq w w'):qf0 w' v xs:=by
 rcases h with h | ⟨g,off,cap,e,h⟩
 ·exact .inl h
 ·exact .inr ⟨g,off,cap,e,h.upd u (fun h=>h)⟩
def qhn(base:Nat)(w:World)(v:Value)(xs:List Live):Prop:=(∃a c,v = .slice a 0 c∧xs=[])∨∃g off cap,v = .slice (some ⟨g,off,none⟩) xs.length cap∧base≤g∧qdy w g off xs
theorem qhn.to{base:Nat}{w:World}{v:Value}{xs:List Live}(h:qhn base w v xs):qf0 w v xs:=by
 rcases h with h | ⟨g,off,cap,e,_,h⟩
 ·exact .inl h
 ·exact .inr ⟨g,off,cap,e,h⟩
theorem qhn.new{base:Nat}{w w':World}{v:Value}{xs:List Live}(h:qhn base w v xs)(u:qq w w'):qhn base w' v xs:=by
 rcases h with h | ⟨g,off,cap,e,i,h⟩
 ·exact .inl h
 ·exact .inr ⟨g,off,cap,e,i,h.upd u (fun h=>h)⟩
theorem qhn.row{base:Nat}{w:World}{v:Value}{xs:List Live}(h:qhn base w v xs):∃a cap,v = .slice a xs.length cap∧∀(i:Nat) (x:Live),xs[i]? = some x→∃g off,a=some ⟨g,off,none⟩∧base≤g∧qdy w g off xs:=by
 rcases h with ⟨a,c,e,rfl⟩ | ⟨g,off,cap,e,m,o⟩
 ·exact⟨a,c,e,fun i x q=>by simp at q⟩
 ·exact⟨_,cap,e,fun i x _=>⟨g,off,rfl,m,o⟩⟩
theorem qb5(Z:Array Value)(C:List Value)(h:Z.size=C.length):qhz Z 0 C=C.toArray:=by
 apply Array.ext';apply List.ext_getElem?;intro j;rw[Array.getElem?_toList,qig _ _ _ _ (by omega)];by_cases m:j<C.length
 ·rw[if_pos (by omega)];simp
 ·have i:Z[j]? = none:=Array.getElem?_eq_none (by omega);rw[if_neg (by omega),i];exact(List.getElem?_eq_none (by simp;omega)).symm
theorem qjh(w:World)(Z:Array Value)(T:TypeId)(C:List Value)(m:Z.size=C.length) :
  ((w.alloc (.cells Z T)).setCells w.heap.size 0 C).heap[w.heap.size]? = some (.cells C.toArray T (0,0))∧qq w ((w.alloc (.cells Z T)).setCells w.heap.size 0 C):=by
 constructor
 ·rw[qax (ql w (.cells Z T)) 0 C,qb5 Z C m]
 ·exact(((Upd.refl (· = w.heap.size) w).alloc _).setCells 0 C).mono (fun i o e=>by omega)
theorem qem(x:Live):∀v∈qm x,v.oneCell'=true:=by
 intro v i;simp only[qm,List.mem_append,List.mem_cons,List.not_mem_nil,or_false] at i;rcases i with i | rfl | rfl | rfl
 ·exact qhx _ v i
 ·rfl
 ·rfl
 ·rfl
theorem qcg{w w':World}{base:Nat}{e:TypeId}{size:Nat}{v:Value}{n:Nat}{xs:List Value}(h:w.ownsRow base e size v n xs)(u:qq w w'):w'.ownsRow base e size v n xs:=by
 refine⟨h.1,?_⟩;rcases h.2 with h | ⟨g,cap,i,m,o,q,r⟩
 ·exact .inl h
 ·exact .inr ⟨g,cap,i,m,o,u.old q (fun h=>h),r⟩
theorem qkq{w:World}{base:Nat}{e:TypeId}{size:Nat}{v:Value}{n:Nat}{xs:List Value}(h:w.ownsRow base e size v n xs):∃a k c,v = .slice a k c:=by
 rcases h.2 with ⟨rfl,_⟩ | ⟨g,cap,i,rfl,_⟩
 ·exact⟨_,_,_,rfl⟩
 ·exact⟨_,_,_,rfl⟩
theorem qjt{S:Nat→Prop}{w w':World}{base:Nat}{e:TypeId}{size:Nat}{v:Value}{n:Nat}{xs:List Value}(h:w.ownsRow base e size v n xs)(u:Upd S w w')(q:∀k,base≤k→¬S k):w'.ownsRow base e size v n xs:=by
 refine⟨h.1,?_⟩;rcases h.2 with h | ⟨g,cap,i,o,m,t,r⟩
 ·exact .inl h
 ·exact .inr ⟨g,cap,i,o,m,u.old t (q g m),r⟩
theorem qkd(X:List Live):(X.flatMap qm).length=X.length*38:=by
 induction X with
 | nil=>rfl
 | cons x X i=>rw[List.flatMap_cons,List.length_append,i,qbb,List.length_cons];omega
theorem qpo:∀(X:List Live) (i j:Nat) (x:Live),X[i]? = some x→j<38→(X.flatMap qm)[i*38+j]? = (qm x)[j]? := by
 intro X
 induction X with
 | nil=>intro i j x h;simp at h
 | cons y X q =>
  intro i j x m o;rw[List.flatMap_cons];cases i with
  | zero =>
   simp only[List.getElem?_cons_zero,Option.some.injEq] at m;subst m;rw[List.getElem?_append_left (by rw[qbb];omega),Nat.zero_mul,Nat.zero_add]
  | succ i =>
   rw[List.getElem?_append_right (by rw[qbb];omega),qbb,show (i+1)*38+j-38=i*38+j by omega];exact q i j x (by simpa using m) o
theorem qzs(X:List Live):∀u∈X.flatMap qm,u.oneCell'=true:=by
 intro u i;obtain⟨x,_,m⟩:=List.mem_flatMap.1 i;exact qem x u m
def qdf(w:World)(g off:Nat)(xs:List Live):Prop :=
 ∃C T,w.heap[g]? = some (.cells C T (0,0))∧off+xs.length*38≤C.size∧∀i x,xs[i]? = some x→∀j,j<38→C[off+i*38+j]? = (qm x)[j]?
theorem qdf.toL{w:World}{g off:Nat}{xs:List Live}(h:qdf w g off xs):qdy w g off xs:=by
 obtain⟨C,T,i,r⟩:=h;exact⟨C,T,_,i,r⟩
theorem qdf.row{w:World}{g off:Nat}{xs:List Live}(h:qdf w g off xs){i:Nat}{x:Live}(m:xs[i]? = some x):zt w g (off+i*38) 38=some (qm x).toArray:=h.toL.row m
theorem qdf.upd{S:Nat→Prop}{w w':World}{b off:Nat}{xs:List Live}(h:qdf w b off xs)(u:Upd S w w')(m:¬S b):qdf w' b off xs:=by
 obtain⟨C,T,i,r⟩:=h;exact⟨C,T,u.old i m,r⟩
theorem qdy.cells{w:World}{g off:Nat}{X:List Live}(h:qdy w g off X):∀j u,(X.flatMap qm)[j]? = some u→w.cell? ((⟨g,off,none⟩:Addr).add j)=some u:=by
 intro j u q;obtain⟨C,T,D,v,H,y⟩:=h;have E:j<X.length*38:=by
  have:=(List.getElem?_eq_some_iff.1 q).1;rwa [qkd] at this
 have i:(⟨g,off,none⟩:Addr).add j=⟨g,off+j,none⟩:=by unfold Addr.add;split<;>simp_all
 rw[i,qk v];have z:j / 38<X.length:=Nat.div_lt_of_lt_mul (by omega);obtain⟨x,t⟩:∃x,X[j / 38]? = some x:=⟨_,List.getElem?_eq_getElem z⟩;have e:=Nat.div_add_mod j 38;have o:=Nat.mod_lt j (show 0<38 by decide);rw[←q,show off+j=off+j / 38*38+j%38 by omega,y _ x t _ o];have m:=qpo X _ _ x t o;rw[show j / 38*38+j%38=j by omega] at m;exact m.symm
theorem qc0{w:World}{base:Nat}{v:Value}{n:Nat}{X:List Live}(h:w.ownsRow base 69 38 v n (X.flatMap qm)) :
  n=X.length∧((v = .slice none 0 0∧X=[])∨∃g cap,v = .slice (some ⟨g,0,none⟩) X.length cap∧base≤g∧qdf w g 0 X):=by
 have t:n=X.length:=by have:=h.1;rw[qkd] at this;omega
 refine⟨t,?_⟩
 subst t
 rcases h.2 with ⟨e,e0⟩ | ⟨g,cap,m,e,y,C,z,_,H,E⟩
 ·exact .inl ⟨e,List.length_eq_zero_iff.1 e0⟩
 ·refine .inr ⟨g,cap,e,y,m,_,C,by have:=Nat.mul_le_mul_right 38 z;omega,fun i x q j D=> ?_⟩;have o:=(List.getElem?_eq_some_iff.1 q).1;rw[Nat.zero_add,←qpo X i j x q D,←E,List.getElem?_take,if_pos (by have:=Nat.mul_le_mul_right 38 (show i+1≤X.length from o);omega),Array.getElem?_toList]
theorem Tryz.infoLiveB:(Tryz.prog.info? 69).map (fun i=>(i.size,i.bytes,i.zero.map (·.cells.size)))=some (38,80,some 38):=by kernel_rfl
theorem q0i:∃i z,Tryz.prog.info? 69=some i∧i.zero=some z∧i.size=38∧i.bytes=80∧z.cells.size=38:=by
 have h:=Tryz.infoLiveB;cases q:Tryz.prog.info? 69 with
 | none=>rw[q] at h;simp at h
 | some i =>
  rw[q] at h;simp only[Option.map_some,Option.some.injEq,Prod.mk.injEq] at h;obtain⟨t,v,m⟩:=h;cases o:i.zero with
  | none=>rw[o] at m;simp at m
  | some z=>rw[o] at m;simp at m;exact⟨i,z,rfl,o,t,v,m⟩
theorem qpl(v:Value)(xs:List Live)(W:xs.length≤1048576)(w:World)(N:qf0 w v xs) :
  Calls Tryz.prog 56 #[v] w fun e w'=>∃u,e = .returned u∧qq w w'∧((∃a c,u = .slice a 0 c∧xs=[])∨∃g cap,u = .slice (some ⟨g,0,none⟩) xs.length cap∧w.heap.size≤g∧qdf w' g 0 xs):=by
 have y:(∃c,v = .slice none 0 c∧xs=[])∨∃(a:Addr) (cap:Nat),v = .slice (some a) xs.length cap∧∀j u,(xs.flatMap qm)[j]? = some u→w.cell? (a.add j)=some u:=by
  rcases N with ⟨a,c,rfl,rfl⟩ | ⟨g,off,cap,rfl,t⟩
  ·cases a with
   | none=>exact .inl ⟨_,rfl,rfl⟩
   | some a=>exact .inr ⟨a,c,rfl,by simp⟩
  ·exact .inr ⟨_,cap,rfl,t.cells⟩
 rcases y with ⟨c,rfl,rfl⟩ | ⟨a,cap,rfl,t⟩
 ·go_enter Tryz.func56,Tryz.ntmps56;have E:=fun(w:World)=>run_eql_slice_nil (P:=Tryz.prog) w 46 _ none 0 c Tryz.underlying46
  go_wp2
  first | go_ret2 | go_ret
  exact⟨_,rfl,Upd.refl _ _,.inl ⟨_,_,rfl,trivial⟩⟩
 ·obtain⟨R,z9,K,O,z,C,D⟩:=q0i;have E:=fun(w:World)=>run_eql_slice_nil (P:=Tryz.prog) w 46 _ (some a) xs.length cap Tryz.underlying46
  simp only[Option.isNone_some] at E;go_enter Tryz.func56,Tryz.ntmps56;go_wp2_with (at_builtin;refine wpList_append_own _ rfl (.tmp 5) (.tmp 6) 46 rfl w.heap.size 69 R _ 38 80 Tryz.underlying46 K O z C D (by decide) _ 0 [] rfl (World.ownsRow_made (base:=w.heap.size) w #[] 0 (Nat.le_refl _) (by decide) rfl) a xs.length cap (xs.flatMap qm) rfl (qkd xs) ?c1 (qzs xs) ?c3 ?c4 ?c5 ?_)
  case c1 =>
   intro j u M;exact((Upd.refl (fun _=>False) w).alloc _).cell (t j u M) (fun h=>h)
  case c3=>unfold maxLen;omega
  case c4=>omega
  case c5=>simp
  intro Y U i m _;have T:qq w U:=((Upd.refl _ w).alloc _).grown m (fun k h V=>by simp[Value.ownBlock] at h;omega);have o:=(qc0 i).2;obtain⟨a5,X,c5,rfl⟩:=qkq i;have H:=qj o;clear o i m;go_wp2
  first | go_ret2 | go_ret
  refine⟨_,rfl,T,?_⟩;rcases qg H with h | ⟨I,q,e,J,x⟩
  ·exact .inl ⟨_,_,h.1,h.2⟩
  ·exact .inr ⟨I,q,e,J,x⟩
def Live.zero:Live:=⟨⟨0,0,Vector.replicate 32 0,0⟩,false,0,false⟩
def q16:Sem Value:=Instr.alloc 69 true (.tuple #[])
theorem qb1:Instr.alloc 69 true (.tuple #[])=q16:=rfl
theorem qeu(w:World):q16.run Tryz.prog w = .ok (.pointer (some ⟨w.heap.size,0,none⟩)) (w.alloc (.cells (qm Live.zero).toArray 69)):=by kernel_rfl
theorem qdk{w:World}{b:Nat}{C:Array Value}{T:TypeId}(h:w.heap[b]? = some (.cells C T (0,0))){A:List Value}(m:A.length=C.size)(i:∀v∈A,v.oneCell'=true):stOk w b 0 C.size A.toArray=true :=
 qd4 h (by omega) (by simpa using m) (by rw[Array.all_eq_true_iff_forall_mem];intro v o;exact i v (by simpa using o))
theorem qgn(w:World)(x:Live):stOk (w.alloc (.cells (qm Live.zero).toArray 69)) w.heap.size 0 38 (qm x).toArray=true :=
 qdk (C:=(qm Live.zero).toArray) (ql _ _) (by rw[qbb];rfl) (qem x)
theorem qgb(w:World)(x:Live):((w.alloc (.cells (qm Live.zero).toArray 69)).setCells w.heap.size 0 (qm x)).heap[w.heap.size]? = some (.cells (qm x).toArray 69 (0,0))∧qq w ((w.alloc (.cells (qm Live.zero).toArray 69)).setCells w.heap.size 0 (qm x)) :=
 qjh w _ _ _ (by rw[qbb];rfl)
end Go.Proofs.YtfmkdoachjgjbaaGreatDoor
