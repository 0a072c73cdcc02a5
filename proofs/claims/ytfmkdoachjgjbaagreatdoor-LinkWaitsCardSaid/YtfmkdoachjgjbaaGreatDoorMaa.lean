/-
  Words of our own on worlds: 'Upd S w w'': the streams are as they were, no block has gone, and each old block outside S holds what it held.
-/
import Derived.WalkKit
import Derived.WalkSpells
import Derived.WalkLawsBesides
import Derived.BigQuiet
import Derived.Lib.Hide
import Derived.Deep.MidRow
import Derived.Test.YtfmkdoachjgjbaaGreatDoorRows
import Derived.Deep.RegionHeld3
import Derived.OpenShut
import Derived.Orders
set_option linter.unusedVariables false
set_option linter.unusedSimpArgs false
namespace Go.Proofs.YtfmkdoachjgjbaaGreatDoor
open Go.RowKit
theorem qb{p:Prop}(h:p):Hid p:=h
theorem qa{p:Prop}(h:Hid p):p:=h
structure Upd(S:Nat→Prop)(w w':World):Prop where
 os:w'.os=w.os
 tape:w'.tape=w.tape
 output:w'.output=w.output
 size:w.heap.size≤w'.heap.size
 block:∀k,k<w.heap.size→¬S k→w'.heap[k]? = w.heap[k]?
abbrev qu(w w':World):Prop:=Upd (fun _=>False) w w'
theorem Upd.refl(S:Nat→Prop)(w:World):Upd S w w:=⟨rfl,rfl,rfl,Nat.le_refl _,fun _ _ _=>rfl⟩
theorem Upd.trans{S:Nat→Prop}{a b c:World}(h:Upd S a b)(k:Upd S b c):Upd S a c :=
 ⟨k.os.trans h.os,k.tape.trans h.tape,k.output.trans h.output,Nat.le_trans h.size k.size,fun i f m=>(k.block i (Nat.lt_of_lt_of_le f h.size) m).trans (h.block i f m)⟩
theorem Upd.then{S T:Nat→Prop}{a b c:World}(h:Upd S a b)(k:Upd T b c)(p:∀i,i<a.heap.size→T i→S i):Upd S a c :=
 ⟨k.os.trans h.os,k.tape.trans h.tape,k.output.trans h.output,Nat.le_trans h.size k.size,fun i f m=>(k.block i (Nat.lt_of_lt_of_le f h.size) (fun t=>m (p i f t))).trans (h.block i f m)⟩
theorem Upd.mono{S T:Nat→Prop}{a b:World}(h:Upd S a b)(f:∀i,i<a.heap.size→S i→T i):Upd T a b :=
 (Upd.refl T a).then h f
theorem Upd.drew{S:Nat→Prop}{a w:World}(h:Upd S a w):Upd S a w.drew:=⟨h.os,h.tape,h.output,h.size,h.block⟩
theorem Upd.drewN{S:Nat→Prop}{a w:World}(h:Upd S a w)(n:Nat):Upd S a (w.drewN n):=⟨h.os,h.tape,h.output,h.size,h.block⟩
theorem Upd.alloc{S:Nat→Prop}{a w:World}(h:Upd S a w)(o:Obj):Upd S a (w.alloc o) :=
 ⟨h.os,h.tape,h.output,Nat.le_trans h.size (by simp),fun i f m=>(Below.heap_alloc w o i (Nat.lt_of_lt_of_le f h.size)).trans (h.block i f m)⟩
theorem Upd.setCell{S:Nat→Prop}{a w:World}(h:Upd S a w){p:Addr}(q:p.block<a.heap.size→S p.block)(u:Value):Upd S a (w.setCell p u) :=
 ⟨h.os,h.tape,h.output,by simpa [World.setCell] using h.size,fun i f m=>(Below.heap_setCell w p u i (by rintro rfl;exact m (q f))).trans (h.block i f m)⟩
theorem Upd.set1{a w:World}{b:Nat}(h:Upd (· = b) a w)(o:Nat)(u:Value):Upd (· = b) a (w.setCell ⟨b,o,none⟩ u):=h.setCell (fun _=>rfl) u
theorem Upd.grown{S:Nat→Prop}{a w w':World}{row:Option Nat}(h:Upd S a w)(f:w.grownBy w' row)(q:∀k,row=some k→k<a.heap.size→S k):Upd S a w' :=
 ⟨f.os.trans h.os,f.tape.trans h.tape,f.output.trans h.output,Nat.le_trans h.size f.size,
  fun i m p=>(f.block i (Nat.lt_of_lt_of_le m h.size) (fun e=>p (q i e.symm m))).trans (h.block i m p)⟩
theorem Upd.below{B:Nat}{a w:World}(h:Upd (fun k=>B≤k) a w)(f:B≤a.heap.size):Below B a w :=
 ⟨h.os,h.tape,h.output,h.size,fun k i=>h.block k (by omega) (by omega)⟩
theorem Upd.below'{S:Nat→Prop}{B:Nat}{a w:World}(h:Upd S a w)(m:B≤a.heap.size)(f:∀k,S k→B≤k):Below B a w :=
 ⟨h.os,h.tape,h.output,h.size,fun k p=>h.block k (by omega) (fun i=>by have:=f k i;omega)⟩
theorem Upd.of_below{B:Nat}{a w:World}(h:Below B a w)(f:a.heap.size≤B):qu a w :=
 ⟨h.os,h.tape,h.output,h.size,fun k i _=>h.block k (by omega)⟩
theorem Upd.old{S:Nat→Prop}{a w:World}(h:Upd S a w){k:Nat}{o:Obj}(f:a.heap[k]? = some o)(i:¬S k):w.heap[k]? = some o :=
 (h.block k (Array.getElem?_eq_some_iff.1 f).1 i).trans f
theorem Upd.cell{S:Nat→Prop}{a w:World}(h:Upd S a w){p:Addr}{v:Value}(f:a.cell? p=some v)(i:¬S p.block):w.cell? p=some v :=
 (World.cell?_of_block (h.block p.block (World.block_lt_of_cell? a p f) i)).trans f
def Q(w w':World):Prop:=∃n,w'=w.drewN n
theorem Q.refl(w:World):Q w w:=⟨0,rfl⟩
theorem Q.drewN(w:World)(n:Nat):Q w (w.drewN n):=⟨n,rfl⟩
theorem Q.drewN'{w w':World}(h:Q w w')(n:Nat):Q w (w'.drewN n):=by
 obtain⟨m,rfl⟩:=h;exact⟨m+n,by rw[World.drewN_drewN]⟩
theorem Q.trans{a b c:World}(h:Q a b)(k:Q b c):Q a c:=by
 obtain⟨m,rfl⟩:=k;exact h.drewN' m
theorem Q.heap{w w':World}(h:Q w w'):w'.heap=w.heap:=by
 obtain⟨m,rfl⟩:=h;rfl
theorem Q.upd{w w':World}(h:Q w w')(S:Nat→Prop):Upd S w w':=by
 obtain⟨m,rfl⟩:=h;exact(Upd.refl S w).drewN m
theorem Q.old{w w':World}(h:Q w w'){k:Nat}{o:Obj}(f:w.heap[k]? = some o):w'.heap[k]? = some o:=by rw[h.heap];exact f
theorem Q.cell{w w':World}(h:Q w w'){p:Addr}{v:Value}(f:w.cell? p=some v):w'.cell? p=some v:=by
 obtain⟨m,rfl⟩:=h;exact f
def qay(v:Value)(w:World)(e:Ending)(w':World):Prop:=e = .returned v∧Q w w'
def qa1(v:Value)(w:World)(e:Ending)(w':World):Prop:=e = .returned v∧qu w w'
theorem zr{w:World}{b:Nat}{o:Obj}(h:w.heap[b]? = some o):b<w.heap.size:=(Array.getElem?_eq_some_iff.1 h).1
theorem qg{w:World}{b:Nat}{cs:Array Value}{T:TypeId}{f:Nat × Nat}(h:w.heap[b]? = some (.cells cs T f))(i:Nat):w.cell? ⟨b,i,none⟩=cs[i]? := by
 simp[World.cell?,h]
theorem qo{w:World}{b:Nat}{cs:Array Value}{T:TypeId}(h:w.heap[b]? = some (.cells cs T (0,0)))(i:Nat):w.frozen? ⟨b,i,none⟩=false:=by
 simp[World.frozen?,h]
theorem zt{w:World}{b:Nat}{cs:Array Value}{T:TypeId}{f:Nat × Nat}(h:w.heap[b]? = some (.cells cs T f))(i:Nat)(v:Value) :
  (w.setCell ⟨b,i,none⟩ v).heap[b]? = some (.cells (cs.setIfInBounds i v) T f):=by
 simp[World.setCell,Array.getElem?_modify,h]
theorem qh(w:World)(o:Obj):(w.alloc o).heap[w.heap.size]? = some o:=heap_alloc_new w o
theorem qq{w:World}{b:Nat}{o:Obj}(h:w.heap[b]? = some o)(x:Obj):(w.alloc x).heap[b]? = some o :=
 (Below.heap_alloc w x b (zr h)).trans h
def bt(s:ByteArray)(n:Nat):Int:=(s.data.toList.getD n 0).toNat
theorem qfe(s:ByteArray)(n:Nat):0≤bt s n∧bt s n≤255:=by
 unfold bt;have:=(s.data.toList.getD n 0).toNat_lt;omega
theorem q4l(s:ByteArray)(n:Nat)(h:n<s.size):(s[n].toNat:Int)=bt s n:=by
 have f:n<s.data.size:=h;unfold bt;rw[List.getD_eq_getElem?_getD,Array.getElem?_toList,Array.getElem?_eq_getElem f];rfl
theorem qeh{P:Program}(t:TypeId)(s:ByteArray)(k:IntKind)(i:Int)(n:Nat)(h:P.underlying t=some .string)(f:i=n)(m:n<s.size)(w:World) :
  (Instr.index t (.string s) (.int k i)).run P w = .ok (.int .u8 (bt s n)) w:=by
 subst f
 rw[run_index_string w t s k _ h,dif_pos (by omega),←q4l s n m]
 rfl
theorem qni(n:Nat)(h:n<9223372036854775808):IntKind.i64.wrap (n:Int)=n:=by
 simp[IntKind.wrap,IntKind.bits,IntKind.signed];split<;>omega
theorem qe9(n:Nat)(h:n<18446744073709551616):(BitVec.ofInt 64 (n:Int)).toNat=n:=by
 simp[BitVec.ofInt];omega
theorem or8(x y:Int)(f:0≤x)(p:x≤255)(m:0≤y)(q:y≤255):bits .or .i64 (x*256) y=x*256+y:=by
 obtain⟨a,rfl⟩:=Int.eq_ofNat_of_zero_le f;obtain⟨b,rfl⟩:=Int.eq_ofNat_of_zero_le m;have e:(a:Int)*256=((a*256:Nat):Int):=by omega
 rw[e];show IntKind.i64.wrap ((BitVec.ofInt 64 ((a*256:Nat):Int) ||| BitVec.ofInt 64 (b:Int)).toNat:Int)=_;rw[BitVec.toNat_or,qe9 _ (by omega),qe9 _ (by omega)];have h:=Nat.shiftLeft_add_eq_or_of_lt (b:=b) (i:=8) (by omega) a;rw[Nat.shiftLeft_eq] at h;rw[show a*256=a*2 ^ 8 from rfl,←h,qni _ (by omega)];omega
theorem qc5{P:Program}(w:World)(src dst e:TypeId)(v:P.underlying src=some (.slice e))(p:P.underlying e=some (.int .u8))(hd:P.underlying dst=some .string)
  (b cap:Nat) (xs:List Int) (T:TypeId) (f:Nat × Nat) (n:Nat) (q:xs.length=n) (m:w.heap[b]? = some (.cells (xs.map (Value.int .u8)).toArray T f)) :
  (convert src dst (.slice (some ⟨b,0,none⟩) n cap)).run P w = .ok (.string (strOfNums xs)) w:=by
 refine run_convert_bytes_arg w src e v p b 0 n cap xs q (fun i z=> ?_) dst hd
 rw[Nat.zero_add,qg m i,List.getElem?_toArray,List.getElem?_map,List.getElem?_eq_getElem (by omega)]
 simp[List.getD,List.getElem?_eq_getElem (show i<xs.length by omega)]
theorem qo3{P:Program}(src dst e:TypeId)(i:P.underlying src=some (.slice e))(f:P.underlying e=some (.int .u8))(hd:P.underlying dst=some .string)(T:TypeId)(w:World)(x y:Int) :
  (convert src dst (.slice (some ⟨w.heap.size,0,none⟩) 2 2)).run P (w.alloc (.cells #[.int .u8 x,.int .u8 y] T)) = .ok (.string (strOfNums [x,y])) (w.alloc (.cells #[.int .u8 x,.int .u8 y] T)) :=
 qc5 _ src dst e i f hd _ _ [x,y] T (0,0) 2 rfl (qh _ _)
theorem q75{s:ByteArray}(h:0<s.size):s.toList.isEmpty=false:=by
 rw[List.isEmpty_eq_false_iff];intro e;rw[ByteArray.toList_eq] at e;have f:s.data.toList.length=0:=by rw[e];rfl
 rw[Array.length_toList] at f;have i:0<s.data.size:=h;omega
def zj(w:World)(b o n:Nat):Option (Array Value) :=
 match w.heap[b]? with
 | some (.cells C _ _)=>if o+n≤C.size then some (C.extract o (o+n)) else none
 | _=>none
def qc6(P:Program)(f:TypeId)(w:World)(b o:Nat):Result Value:=(loadVar f ⟨b,o,none⟩).run P w
theorem qhf{w:World}{b o n:Nat}{A:Array Value}(h:zj w b o n=some A):A.size=n∧∀j,j<n→w.cell? ⟨b,o+j,none⟩=A[j]? := by
 unfold zj at h;cases f:w.heap[b]? with
 | none=>rw[f] at h;cases h
 | some ob =>
  rw[f] at h;cases ob with
  | cells C T m =>
   simp only at h;split at h
   ·rename_i i;injection h with h;subst h;refine⟨by simp;omega,fun j p=> ?_⟩;rw[qg f,Array.getElem?_extract,if_pos (by omega)]
   ·cases h
  | _=>cases h
theorem qsy{w:World}{b o n:Nat}{A:Array Value}(h:zj w b o n=some A):w.rangeAt b o A.toList:=by
 obtain⟨p,i⟩:=qhf h;intro j v f;rw[Array.getElem?_toList] at f;have m:j<n:=by
  have:=(Array.getElem?_eq_some_iff.1 f).1;omega
 rw[i j m,f]
theorem qbx{w:World}{b:Nat}{C:Array Value}{T:TypeId}{f:Nat × Nat}(h:w.heap[b]? = some (.cells C T f))(o n:Nat)(i:o+n≤C.size):zj w b o n=some (C.extract o (o+n)):=by
 unfold zj;rw[h];simp only;rw[if_pos i]
theorem qai{w:World}{b:Nat}{C:Array Value}{T:TypeId}{f:Nat × Nat}(h:w.heap[b]? = some (.cells C T f))(n:Nat)(i:C.size=n):zj w b 0 n=some C:=by
 rw[qbx h 0 n (by omega)];simp[←i]
theorem q2y{w w':World}(b:Nat)(h:w'.heap[b]? = w.heap[b]?)(o n:Nat):zj w' b o n=zj w b o n:=by unfold zj;rw[h]
theorem qbc{S:Nat→Prop}{w w':World}{b o n:Nat}{A:Array Value}(h:zj w b o n=some A)(u:Upd S w w')(i:¬S b):zj w' b o n=some A:=by
 rw[q2y b (u.block b ?_ i)]
 ·exact h
 ·by_cases f:b<w.heap.size
  ·exact f
  ·have e:w.heap[b]? = none:=by simp;omega
   unfold zj at h;rw[e] at h;cases h
theorem zy{P:Program}(f n:Nat)(d:TypeDesc)(m:P.underlying f=some d)(hd:d.isRow=true)(i:(P.info? f).map (·.size)=some n)(b o:Nat)(w:World) :
  (Instr.loadAt f (.pointer (some ⟨b,o,none⟩))).run P w=match zj w b o n with | some A=> .ok (.agg A) w | none=>qc6 P f w b o:=by
 cases h:zj w b o n with
 | none =>
  simp only[Instr.loadAt,Instr.sureAddr,Sem.run_bind,Sem.run_pure,Result.andThen_ok,qc6]
 | some A =>
  simp only;rw[run_loadAt_mid w b o f A.toList d (qsy h) m hd (by rw[i,Array.length_toList,(qhf h).1])]
def stOk(w:World)(b o n:Nat)(A:Array Value):Bool :=
 (match w.heap[b]? with | some (.cells C _ f)=>decide (o+n≤C.size)&&decide (f=(0,0)) | _=>false)&&decide (A.size=n)&&A.all (·.oneCell')
def qd3(P:Program)(f:TypeId)(w:World)(b o:Nat)(A:Array Value):Result Unit:=(Instr.storeAt f (.pointer (some ⟨b,o,none⟩)) (.agg A)).run P w
theorem qdf{w:World}{b:Nat}{C:Array Value}{T:TypeId}(h:w.heap[b]? = some (.cells C T (0,0))){o n:Nat}(m:o+n≤C.size){A:Array Value}(i:A.size=n)(f:A.all (·.oneCell')=true):stOk w b o n A=true:=by
 unfold stOk;rw[h];simp only[f,Bool.and_true];simp[m,i]
theorem qyb{w:World}{b o n:Nat}{A:Array Value}(h:stOk w b o n A=true):w.there b o A.size∧A.size=n∧A.all (·.oneCell')=true:=by
 unfold stOk at h;cases f:w.heap[b]? with
 | none=>rw[f] at h;simp at h
 | some ob =>
  rw[f] at h;cases ob with
  | cells C T p =>
   simp only[Bool.and_eq_true,decide_eq_true_eq] at h;obtain⟨⟨⟨q,rfl⟩,i⟩,m⟩:=h;refine⟨fun j v=>⟨?_,qo f _⟩,i,m⟩;rw[qg f,Array.getElem?_eq_getElem (by omega)];rfl
  | _=>simp at h
theorem qap{P:Program}(f n:Nat)(q:(P.info? f).map (·.size)=some n)(b o:Nat)(A:Array Value)(w:World) :
  (Instr.storeAt f (.pointer (some ⟨b,o,none⟩)) (.agg A)).run P w=if stOk w b o n A=true then .ok () (w.setCells b o A.toList) else qd3 P f w b o A:=by
 by_cases h:stOk w b o n A=true
 ·rw[if_pos h];obtain⟨i,m,p⟩:=qyb h;exact run_storeAt_mid w b o f A i (by rw[q,m]) p
 ·rw[if_neg h];rfl
def qiz(C:Array Value)(o:Nat):List Value→Array Value
 | []=>C
 | v::r=>qiz (C.setIfInBounds o v) (o+1) r
theorem qa3{w:World}{b:Nat}{C:Array Value}{T:TypeId}{i:Nat × Nat}(h:w.heap[b]? = some (.cells C T i))(o:Nat)(f:List Value):(w.setCells b o f).heap[b]? = some (.cells (qiz C o f) T i):=by
 induction f generalizing w C o with
 | nil=>exact h
 | cons v r m=>exact m (zt h o v) (o+1)
theorem qor(C:Array Value)(o:Nat)(f:List Value):(qiz C o f).size=C.size:=by
 induction f generalizing C o with
 | nil=>rfl
 | cons v r i=>rw[qiz,i,Array.size_setIfInBounds]
theorem qg5(C:Array Value)(o:Nat)(f:List Value)(i:Nat)(h:o+f.length≤C.size):(qiz C o f)[i]? = if o≤i∧i<o+f.length then f[i-o]? else C[i]? := by
 induction f generalizing C o with
 | nil=>simp[qiz];intro m p;omega
 | cons v r q =>
  rw[qiz,q _ _ (by simp only[List.length_cons] at h;rw[Array.size_setIfInBounds];omega)];simp only[List.length_cons] at h ⊢;by_cases m:o+1≤i∧i<o+1+r.length
  ·rw[if_pos m,if_pos (by omega)];obtain⟨k,rfl⟩:∃k,i=o+1+k:=⟨i-(o+1),by omega⟩;rw[show o+1+k-(o+1)=k by omega,show o+1+k-o=k+1 by omega,List.getElem?_cons_succ]
  ·rw[if_neg m,Array.getElem?_setIfInBounds];by_cases p:o=i
   ·subst p;rw[if_pos rfl,if_pos (by omega),if_pos (by omega)];simp
   ·rw[if_neg p,if_neg (by omega)]
theorem Upd.setCells{w w':World}{b:Nat}(h:Upd (· = b) w w')(o:Nat)(f:List Value):Upd (· = b) w (w'.setCells b o f):=by
 induction f generalizing w' o with
 | nil=>exact h
 | cons v r i=>exact i (h.set1 o v) (o+1)
theorem qv(w:World)(b o n:Nat):zj w.drew b o n=zj w b o n:=rfl
def qbd(k:IntKind)(w:World)(b:Nat)(ws:List Int):Prop:=∃T,w.heap[b]? = some (.cells (ws.map (Value.int k)).toArray T (0,0))
theorem qbd.cell{k:IntKind}{w:World}{b:Nat}{ws:List Int}(h:qbd k w b ws){i:Nat}(f:i<ws.length):w.cell? ⟨b,i,none⟩=some (.int k (ws.getD i 0)):=by
 obtain⟨T,h⟩:=h;rw[qg h,List.getElem?_toArray,List.getElem?_map,List.getElem?_eq_getElem f,List.getD_eq_getElem?_getD,List.getElem?_eq_getElem f];rfl
theorem qbd.free{k:IntKind}{w:World}{b:Nat}{ws:List Int}(h:qbd k w b ws)(i:Nat):w.frozen? ⟨b,i,none⟩=false:=by
 obtain⟨T,h⟩:=h;exact qo h i
theorem qbd.set{k:IntKind}{w:World}{b:Nat}{ws:List Int}(h:qbd k w b ws)(i:Nat)(v:Int):qbd k (w.setCell ⟨b,i,none⟩ (.int k v)) b (ws.set i v):=by
 obtain⟨T,h⟩:=h;refine⟨T,(zt h i _).trans ?_⟩;simp[List.map_set]
theorem qbd.upd{S:Nat→Prop}{k:IntKind}{w w':World}{b:Nat}{ws:List Int}(h:qbd k w b ws)(u:Upd S w w')(f:¬S b):qbd k w' b ws:=by
 obtain⟨T,h⟩:=h;exact⟨T,u.old h f⟩
theorem qbd.q{k:IntKind}{w w':World}{b:Nat}{ws:List Int}(h:qbd k w b ws)(q:Q w w'):qbd k w' b ws:=h.upd (q.upd (fun _=>False)) (fun h=>h)
theorem qbd.lt{k:IntKind}{w:World}{b:Nat}{ws:List Int}(h:qbd k w b ws):b<w.heap.size:=by
 obtain⟨T,h⟩:=h;exact zr h
def qch(x n:Int):Int:=bits .or .u32 (x / 2 ^ n.toNat) (x*2 ^ (32-n).toNat%4294967296)
def qbz(x:Int)(f:List Int):Int:=f.foldl (fun a n=>bits .xor .u32 a (qch x n)) 0
theorem qbv(f:BinOp)(x y:Int):0≤bits f .u32 x y∧bits f .u32 x y<4294967296:=by
 have h:=wf_bits f .u32 x y;simp[Lit.wf,IntKind.min,IntKind.max,IntKind.signed,IntKind.bits] at h;omega
theorem qju(x:Int)(f:List Int):0≤qbz x f∧qbz x f<4294967296:=by
 unfold qbz;have key:∀(f:List Int) (a:Int),0≤a∧a<4294967296→0≤f.foldl (fun a n=>bits .xor .u32 a (qch x n)) a∧f.foldl (fun a n=>bits .xor .u32 a (qch x n)) a<4294967296:=by
  intro f
  induction f with
  | nil=>intro a h;exact h
  | cons n f i=>intro a _;exact i _ (qbv ..)
 exact key f 0 (by omega)
theorem qvw(x:Int)(f:List Int)(n:Int):qbz x (f++[n])=bits .xor .u32 (qbz x f) (qch x n):=by simp[qbz]
set_option maxHeartbeats 1000000 in
theorem qrc(x:Int)(f:List Int)(b c:Nat)(w:World)(C:∀n∈f,0<n∧n<32)(M:f.length≤8)(N:0≤x)(K:x<4294967296)(I:qbd .u64 w b f) :
  Calls Tryz.prog 223 #[.int .u32 x,.slice (some ⟨b,0,none⟩) f.length c] w (qay (.int .u32 (qbz x f)) w):=by
 go_enter Tryz.func223,Tryz.ntmps223
 go_wp2_with fail
 go_loopw [5,7,10] (fun s _ E wr=>∃k:Nat,E = .int .i64 (k:Int)∧k≤f.length∧s = .int .u32 (qbz x (f.take k))∧wr=w) (fun _ _ E _=>f.length-(intOf E).toNat)
 case atStart=>exact⟨0,rfl,Nat.zero_le _,rfl,rfl⟩
 case round =>
  obtain⟨k,rfl,L,rfl,rfl⟩:=hrel;by_cases i:k<f.length
  ·have F:=I.cell i;obtain⟨v,z⟩:=C (f.getD k 0) (by rw[List.getD_eq_getElem?_getD,List.getElem?_eq_getElem i];exact List.getElem_mem i);have m:=qvw x (f.take k) (f.getD k 0);rw[show f.take k++[f.getD k 0]=f.take (k+1) by rw[List.take_add_one,List.getD_eq_getElem?_getD,List.getElem?_eq_getElem i];rfl] at m;obtain⟨H,q⟩:=qju x (f.take k);unfold qch at m;have p:=qb m;have J:(k:Int)<(f.length:Int):=by omega
   clear m;generalize f.getD k 0=n at F v z p;generalize qbz x (f.take k)=a at H q p ⊢;go_wp2;go_roundw
   case rel=>exact⟨k+1,by go_num,by omega,by rw[qa p],trivial⟩
   case measure=>simp[intOf];omega
  ·obtain rfl:k=f.length:=by omega
   rw[List.take_length];go_wp2;go_ret;exact⟨rfl,Q.refl _⟩
theorem qrd(x f i:Int)(g:Nat)(T:TypeId)(w:World)(q:0<f∧f<32)(v:0<i∧i<32)(C:0≤x)(m:x<4294967296)(z:w.heap[g]? = some (.cells #[.int .u64 f,.int .u64 i] T (0,0))) :
  Calls Tryz.prog 223 #[.int .u32 x,.slice (some ⟨g,0,none⟩) 2 2] w (qay (.int .u32 (qbz x [f,i])) w) :=
 qrc x [f,i] g 2 w (by intro n p;simp only[List.mem_cons,List.not_mem_nil,or_false] at p;rcases p with rfl | rfl;exact q;exact v) (by simp) C m ⟨T,z⟩
theorem qmu(x f i m:Int)(g:Nat)(T:TypeId)(w:World)(v:0<f∧f<32)(z:0<i∧i<32)(C:0<m∧m<32)(F:0≤x)(p:x<4294967296)(E:w.heap[g]? = some (.cells #[.int .u64 f,.int .u64 i,.int .u64 m] T (0,0))) :
  Calls Tryz.prog 223 #[.int .u32 x,.slice (some ⟨g,0,none⟩) 3 3] w (qay (.int .u32 (qbz x [f,i,m])) w) :=
 qrc x [f,i,m] g 3 w (by intro n q;simp only[List.mem_cons,List.not_mem_nil,or_false] at q;rcases q with rfl | rfl | rfl;exact v;exact z;exact C) (by simp) F p ⟨T,E⟩
def zm(P:Program)(o:Oper)(ρ:Operand→Value)(w:World)(K:Value→World→Prop):Prop :=
 match (execOp ρ o).run P w with
 | .ok (.value v) w'=>K v w'
 | .ok .skip w'=>K undef w'
 | .ok (.enter f args) w'=>Calls P f args w' fun e i=>∃v,e = .returned v∧K v i
 | _=>False
theorem qhb{P:Program}{o:Oper}{a:Act}{ρ:Operand→Value}{w:World}{K:Value→World→Prop}{m:Act→World→Prop}{Q:Exit→Act→World→Prop}(f:execOp a.eval o=execOp ρ o)
  (h:zm P o ρ w K) (i:∀v w',K v w'→m (a.put o.dst v) w'):o.wp P a w m Q:=by
 unfold zm at h
 unfold Oper.wp
 rw[f]
 generalize (execOp ρ o).run P w=r at h ⊢
 cases r with
 | ok n w' =>
  cases n<;>simp only at h<;>simp only[Oper.upon]
  ·exact i _ _ h
  ·exact i _ _ h
  ·refine h.mono fun e q f=> ?_
   obtain⟨v,rfl,p⟩:=f;exact i _ _ p
 | halt x w'=>simp only at h
def putL(a:Act)(qj:Nat→Value):List (Nat × Nat)→Act
 | []=>a
 | p::r=>putL (a.put (some p.2) (qj p.1)) qj r
theorem qgk(qj:Nat→Value):∀(L:List (Nat × Nat)) (a:Act),(putL a qj L).defers=a.defers
 | [],_=>rfl
 | p::r,a=>qgk qj r _
theorem qdp(qj:Nat→Value):∀(L:List (Nat × Nat)) (a:Act) (t:Nat),(∀p∈L,p.2≠t)→(putL a qj L).tmps[t]? = a.tmps[t]?
 | [],_,_,_=>rfl
 | p::r,a,t,h=>by
  rw[putL,qdp qj r _ t fun q f=>h q (List.mem_cons_of_mem _ f)];have:=h p (List.mem_cons_self ..);simp[Act.put,Array.getElem?_setIfInBounds_ne this]
theorem qh4(qj:Nat→Value):∀(L:List (Nat × Nat)) (a:Act) (p:Nat × Nat),p∈L→(∀q∈L,q.2=p.2→q.1=p.1)→p.2<a.tmps.size→(putL a qj L).tmps[p.2]? = some (qj p.1)
 | [],_,_,h,_,_=>by cases h
 | q::r,a,p,h,C,z=>by
  rw[putL];by_cases v:∃i∈r,i.2=p.2
  ·obtain⟨i,f,e⟩:=v;have E:=C i (List.mem_cons_of_mem _ f) e;have m:p∈r:=by
    have:i=p:=Prod.ext E e;exact this▸f
   exact qh4 qj r _ p m (fun q H=>C q (List.mem_cons_of_mem _ H)) (by simpa [Act.put] using z)
  ·have F:p=q:=by
    rcases List.mem_cons.1 h with h | h
    ·exact h
    ·exact absurd ⟨p,h,rfl⟩ v
   rw[qdp qj r _ p.2 fun i f e=>v ⟨i,f,e⟩,←F];simp[Act.put,z]
def qrp:List Oper→List (List Nat)→List (List Nat)
 | [],f=>f
 | o::r,f=>qrp r (f++[((o.after.toList.filter (Region.binds .any)).flatMap fun e=>e.on::f.getD e.on []).foldl (fun s k=>if s.contains k then s else k::s) []])
def qbj(l:List Oper)(j:Nat):Option Nat:=(l[j]?).bind (·.dst)
def looks(l:List Oper)(o:Oper):List Nat:=o.looksAt l.toArray
def q4w(l:List Oper)(A:List (List Nat))(L:List (List (Nat × Nat)))(n:Nat):Bool :=
 (List.range l.length).all fun i=>match l[i]? with
  | none=>true
  | some o =>
   (o.after.toList.all fun e=> !Region.binds .any e || ((A.getD i []).contains e.on&&(A.getD e.on []).all fun k=>(A.getD i []).contains k)) &&
   ((A.getD i []).all fun k=>o.after.toList.any fun e=>Region.binds .any e&&(k==e.on || (A.getD e.on []).contains k)) &&
   ((A.getD i []).all fun k=>k<i) &&
   ((looks l o).all fun t=>(List.range l.length).all fun j=>qbj l j != some t || (A.getD j []).contains i || ((A.getD i []).contains j&&(L.getD i []).contains (j,t))) &&
   ((L.getD i []).all fun p=>(A.getD i []).contains p.1&&qbj l p.1==some p.2) &&
   (match o.dst with
    | some t=>t<n&&(List.range l.length).all fun j=>j==i || qbj l j != some t
    | none=>true) &&
   (match o.guard with | some (g,_)=>(A.getD i []).contains g&&(qbj l g).isSome | none=>true) &&
   (match o.op with | .select .. => false | _=>true)
section
variable {P:Program}{l:List Oper}{A:List (List Nat)}{L:List (List (Nat × Nat))}{n:Nat}
structure Dag(l:List Oper)(A:List (List Nat))(L:List (List (Nat × Nat)))(n:Nat):Prop where
 edge:∀(i:Nat) o,l[i]? = some o→∀e∈o.after,Region.binds .any e=true→e.on∈A.getD i []∧∀k∈A.getD e.on [],k∈A.getD i []
 anc:∀(i:Nat) o,l[i]? = some o→∀k∈A.getD i [],k<i∧∃e∈o.after,Region.binds .any e=true∧(k=e.on∨k∈A.getD e.on [])
 look:∀(i:Nat) o,l[i]? = some o→∀t∈o.looksAt l.toArray,∀j,qbj l j=some t→i∈A.getD j []∨(j∈A.getD i []∧(j,t)∈L.getD i [])
 lis:∀(i:Nat) o,l[i]? = some o→∀p∈L.getD i [],p.1∈A.getD i []∧qbj l p.1=some p.2
 slot:∀(i:Nat) t,qbj l i=some t→t<n∧∀j,qbj l j=some t→j=i
 guard:∀(i:Nat) o,l[i]? = some o→∀g b,o.guard=some (g,b)→g∈A.getD i []∧∃t,qbj l g=some t
 sel:∀(i:Nat) o,l[i]? = some o→∀cs b,o.op ≠ .select cs b
theorem qjs{i t:Nat}(h:qbj l i=some t):i<l.length∧∃o,l[i]? = some o∧o.dst=some t:=by
 unfold qbj at h;cases f:l[i]? with
 | none=>rw[f] at h;cases h
 | some o=>rw[f] at h;exact⟨(List.getElem?_eq_some_iff.1 f).1,o,rfl,h⟩
theorem qwn(h:q4w l A L n=true):Dag l A L n:=by
 have key:∀(i:Nat) o,l[i]? = some o→_:=fun i o f=>by
  have E:i<l.length:=(List.getElem?_eq_some_iff.1 f).1;have:=List.all_eq_true.1 h i (List.mem_range.2 E);rw[f] at this;simp only[Bool.and_eq_true] at this;exact this
 refine⟨?_,?_,?_,?_,?_,?_,?_⟩
 ·intro i o f e C q;obtain⟨⟨⟨⟨⟨⟨⟨k,_⟩,_⟩,_⟩,_⟩,_⟩,_⟩,_⟩:=key i o f;have:=List.all_eq_true.1 k e (by simpa using C);simpa [q] using this
 ·intro i o f k F;obtain⟨⟨⟨⟨⟨⟨⟨_,k1⟩,k2⟩,_⟩,_⟩,_⟩,_⟩,_⟩:=key i o f;have v:=List.all_eq_true.1 k1 k F;have z:=List.all_eq_true.1 k2 k F;obtain⟨e,C,q⟩:=List.any_eq_true.1 v;simp only[Bool.and_eq_true,Bool.or_eq_true,beq_iff_eq,List.contains_iff_mem] at q;exact⟨by simpa using z,e,by simpa using C,q⟩
 ·intro i o f t K j m;obtain⟨⟨⟨⟨⟨⟨⟨_,_⟩,_⟩,k⟩,_⟩,_⟩,_⟩,_⟩:=key i o f;have v:=List.all_eq_true.1 k t K;have z:=List.all_eq_true.1 v j (List.mem_range.2 (qjs m).1);simpa [m] using z
 ·intro i o f p I;obtain⟨⟨⟨⟨⟨⟨⟨_,_⟩,_⟩,_⟩,k⟩,_⟩,_⟩,_⟩:=key i o f;have:=List.all_eq_true.1 k p I;simpa using this
 ·intro i t E;obtain⟨_,o,f,hd⟩:=qjs E;obtain⟨⟨⟨⟨⟨⟨⟨_,_⟩,_⟩,_⟩,_⟩,k⟩,_⟩,_⟩:=key i o f;rw[hd] at k;simp only[Bool.and_eq_true,decide_eq_true_eq] at k;refine⟨k.1,fun j m=> ?_⟩;have:=List.all_eq_true.1 k.2 j (List.mem_range.2 (qjs m).1);simpa [m] using this
 ·intro i o f g b H;obtain⟨⟨⟨⟨⟨⟨⟨_,_⟩,_⟩,_⟩,_⟩,_⟩,k⟩,_⟩:=key i o f;rw[H] at k;simp only[Bool.and_eq_true,List.contains_iff_mem] at k;exact⟨k.1,Option.isSome_iff_exists.1 k.2⟩
 ·intro i o f cs b J;obtain⟨⟨⟨⟨⟨⟨⟨_,_⟩,_⟩,_⟩,_⟩,_⟩,_⟩,k⟩:=key i o f;rw[J] at k;cases k
def qyr(P:Program)(a0:Act)(S:World→Prop)(R:World→World→Prop)(Φ:Nat→Value→World→Prop)(i:Nat)(o:Oper)(Li:List (Nat × Nat)):Prop :=
 ∀(qj:Nat→Value) (w:World),S w→(∀p∈Li,Φ p.1 (qj p.1) w) →
  match o.guard with
  | none=>zm P o (putL a0 qj Li).eval w fun v w'=>R w w'∧S w'∧Φ i v w'
  | some (g,b)=>Φ g (qj g) w→(qj g = .bool b→zm P o (putL a0 qj Li).eval w fun v w'=>R w w'∧S w'∧Φ i v w')∧(qj g ≠ .bool b→Φ i undef w)
def qag(P:Program)(a0:Act)(S:World→Prop)(R:World→World→Prop)(Φ:Nat→Value→World→Prop):Nat→List Oper→List (List (Nat × Nat))→Prop
 | _,[],_=>True
 | i,o::os,L=>qyr P a0 S R Φ i o (L.headD [])∧qag P a0 S R Φ (i+1) os L.tail
theorem qag.nil{a0:Act}{S:World→Prop}{R:World→World→Prop}{Φ:Nat→Value→World→Prop}{i:Nat}{L:List (List (Nat × Nat))} : qag P a0 S R Φ i [] L:=trivial
def q3s(Φ:Nat→Value→World→Prop)(qj:Nat→Value)(w:World):List (Nat × Nat)→Prop
 | []=>True
 | p::r=>Φ p.1 (qj p.1) w∧q3s Φ qj w r
theorem qnm{Φ:Nat→Value→World→Prop}{qj:Nat→Value}{w:World} : ∀ {L:List (Nat × Nat)},(∀p∈L,Φ p.1 (qj p.1) w)→q3s Φ qj w L
 | [],_=>trivial
 | p::r,h=>⟨h p (List.mem_cons_self ..),qnm fun q f=>h q (List.mem_cons_of_mem _ f)⟩
theorem qag.plain{a0:Act}{S:World→Prop}{R:World→World→Prop}{Φ:Nat→Value→World→Prop}{i:Nat}{o:Oper}{os:List Oper}{Li:List (Nat × Nat)}{L:List (List (Nat × Nat))}(m:o.guard=none)
  (h:∀(qj:Nat→Value) (w:World),S w→q3s Φ qj w Li→zm P o (putL a0 qj Li).eval w fun v w'=>R w w'∧S w'∧Φ i v w')
  (k:qag P a0 S R Φ (i+1) os L):qag P a0 S R Φ i (o::os) (Li::L) :=
 ⟨fun qj w f p=>by rw[m];exact h qj w f (qnm p),k⟩
theorem qu1{o:Oper}{ρ:Operand→Value}{w:World}{v:Value}{w':World}{K:Value→World→Prop}(h:(execOp ρ o).run P w = .ok (.value v) w')(k:K v w'):zm P o ρ w K:=by
 unfold zm;rw[h];exact k
theorem qag.at{a0:Act}{S:World→Prop}{R:World→World→Prop}{Φ:Nat→Value→World→Prop} : ∀ {os:List Oper} {L:List (List (Nat × Nat))} {k:Nat},qag P a0 S R Φ k os L→∀(i:Nat) o,os[i]? = some o→qyr P a0 S R Φ (k+i) o (L.getD i [])
 | [],_,_,_,_,_,h=>by simp at h
 | o::os,L,k,h,0,m,f=>by
  simp only[List.getElem?_cons_zero,Option.some.injEq] at f;subst f;have:=h.1;cases L<;>exact this
 | o::os,L,k,h,i+1,m,f=>by
  have:=qag.at h.2 i m (by simpa using f);rw[show k+(i+1)=k+1+i by omega];cases L<;>exact this
def qa6(l:List Oper):List (Nat × Nat):=(List.range l.length).filterMap fun i=>(qbj l i).map fun t=>(i,t)
structure DagInv(l:List Oper)(A:List (List Nat))(a0:Act)(S:World→Prop)(Φ:Nat→Value→World→Prop)(listed:Array Bool)(a:Act)(w:World)(qj:Nat→Value):Prop where
 size:listed.size=l.length
 s:S w
 phi:∀i,listed.getD i false=true→Φ i (qj i) w
 shut:∀i,listed.getD i false=true→∀k∈A.getD i [],listed.getD k false=true
 defers:a.defers=a0.defers
 tmps:a.tmps.size=a0.tmps.size
 other:∀t,(∀i,listed.getD i false=true→qbj l i≠some t)→a.tmps[t]? = a0.tmps[t]?
 at_:∀i t,listed.getD i false=true→qbj l i=some t→a.tmps[t]? = some (qj i)
theorem qv2{a b:Act}(hd:a.defers=b.defers)(f:∀t:Nat,a.tmps[t]? = b.tmps[t]?):a=b:=by
 cases a;cases b;simp only at hd f;subst hd;congr 1;exact Array.ext_getElem? f
theorem qey{f:Array Bool}{i:Nat}(h:i<f.size):(f.setIfInBounds i true).getD i false=true:=by simp[h]
theorem qac{f:Array Bool}{i j:Nat}(h:i<f.size):(f.setIfInBounds i true).getD j false=true↔j=i∨f.getD j false=true:=by
 by_cases e:i=j
 ·subst e;simp[h]
 ·rw[getD_set_ne false e];constructor
  ·exact .inr
  ·rintro (rfl | h)
   ·exact absurd rfl e
   ·exact h
theorem q9a(D:Dag l A L n){a0:Act}(hn:a0.tmps.size=n){S:World→Prop}{R:World→World→Prop}{Φ:Nat→Value→World→Prop}{Q:Exit→Act→World→Prop}
  (c1:∀w,R w w) (Z:∀i v w w',S w→S w'→R w w'→Φ i v w→Φ i v w') (a8:qag P a0 S R Φ 0 l L)
  (c2:∀qj w,S w→(∀i,i<l.length→Φ i (qj i) w)→Q .normal (putL a0 qj (qa6 l)) w) :
  ∀(E:Nat) (f:Array Bool) (a:Act) (w:World) (qj:Nat→Value),DagInv l A a0 S Φ f a w qj→(List.range l.length).countP (fun i=> !f.getD i false)≤E→wpAny P .any l.toArray Q E f a w:=by
 have W:∀(f:Array Bool) (a:Act) (w:World) (qj:Nat→Value),DagInv l A a0 S Φ f a w qj→Region.ready .any l.toArray f=[]→Q .normal a w:=by
  intro f a w qj I hr;have b3:∀(i:Nat),i<l.length→f.getD i false=true:=by
   intro i
   induction i using Nat.strongRecOn with
   | _ i ih =>
    intro N;cases hl:f.getD i false with
    | true=>rfl
    | false =>
     exfalso;have:i∈Region.ready .any l.toArray f:=by
      rw[mem_ready];have ho:l[i]? = some l[i]:=List.getElem?_eq_getElem N;refine⟨?_,l[i],by simp[N],fun e he hb=> ?_⟩
      ·rw[Array.getD_eq_getD_getElem?] at hl ⊢;have:i<f.size:=by rw[I.size];exact N
       rw[Array.getElem?_eq_getElem this] at hl ⊢;simpa using hl
      ·have M:=(D.edge i _ ho e he hb).1;have h2:=(D.anc i _ ho _ M).1;exact ih _ h2 (by omega)
     rw[hr] at this;cases this
  have ha:a=putL a0 qj (qa6 l):=by
   refine qv2 (by rw[qgk];exact I.defers) fun t=> ?_
   by_cases h:∃i,qbj l i=some t
   ·obtain⟨i,N⟩:=h;have K:=(qjs N).1;rw[I.at_ i t (b3 i K) N];have hm:(i,t)∈qa6 l:=by
     unfold qa6;rw[List.mem_filterMap];exact⟨i,List.mem_range.2 K,by rw[N];rfl⟩
    refine(qh4 qj (qa6 l) a0 (i,t) hm (fun q hq e=> ?_) (by rw[hn];exact(D.slot i t N).1)).symm;unfold qa6 at hq;rw[List.mem_filterMap] at hq;obtain⟨j,_,z⟩:=hq;rw[Option.map_eq_some_iff] at z;obtain⟨t',a7,rfl⟩:=z;simp only at e;subst e;exact(D.slot i _ N).2 j a7
   ·rw[I.other t fun i _ O=>h ⟨i,O⟩,qdp];intro p hp e;unfold qa6 at hp;rw[List.mem_filterMap] at hp;obtain⟨j,_,z⟩:=hp;rw[Option.map_eq_some_iff] at z;obtain⟨t',a7,rfl⟩:=z;exact h ⟨j,by rw[a7,←e]⟩
  rw[ha];exact c2 qj w I.s fun i N=>I.phi i (b3 i N)
 intro E
 induction E with
 | zero =>
  intro f a w qj I hc;have hr:Region.ready .any l.toArray f=[]:=by
   rw[List.eq_nil_iff_forall_not_mem];intro i N;obtain⟨h0,o,ho,_⟩:=mem_ready.1 N;have K:i<l.length:=by simpa using (Array.getElem?_eq_some_iff.1 ho).1
   have:(List.range l.length).countP (fun i=> !f.getD i false)=0:=by omega
   rw[List.countP_eq_zero] at this;have:=this i (List.mem_range.2 K);rw[Array.getD_eq_getD_getElem?] at h0 this;have O:i<f.size:=by rw[I.size];exact K
   rw[Array.getElem?_eq_getElem O] at h0 this;simp at h0 this;rw[h0] at this;cases this
  exact⟨hr,W f a w qj I hr⟩
 | succ E ih =>
  intro f a w qj I hc;refine⟨fun hr=>W f a w qj I hr,fun i N=> ?_⟩;obtain⟨h0,o,ho,b4⟩:=mem_ready.1 N;have K:i<l.length:=by simpa using (Array.getElem?_eq_some_iff.1 ho).1
  have O:i<f.size:=by rw[I.size];exact K
  have H:l[i]? = some o:=by simpa using ho
  have Y:f.getD i false=false:=by
   rw[Array.getD_eq_getD_getElem?] at h0 ⊢;rw[Array.getElem?_eq_getElem O] at h0 ⊢;simpa using h0
  have T:∀k∈A.getD i [],f.getD k false=true:=by
   intro k hk;obtain⟨_,e,he,hb,h⟩:=D.anc i o H k hk;have M:=b4 e he hb;rcases h with rfl | h
   ·exact M
   ·exact I.shut _ M k h
  have a6:∀t∈o.looksAt l.toArray,a.tmps[t]? = (putL a0 qj (L.getD i [])).tmps[t]? := by
   intro t ht;by_cases h:∃j,f.getD j false=true∧qbj l j=some t
   ·obtain⟨j,z,C⟩:=h;rcases D.look i o H t ht j C with M | ⟨M,h2⟩
    ·have:=I.shut j z i M;rw[Y] at this;cases this
    ·rw[I.at_ j t z C];refine(qh4 qj _ a0 (j,t) h2 (fun q hq e=> ?_) (by rw[hn];exact(D.slot j t C).1)).symm;have:=(D.lis i o H q hq).2;rw[e] at this;exact(D.slot j t C).2 _ this
   ·rw[I.other t fun j z O=>h ⟨j,z,O⟩,qdp];intro p hp e;obtain⟨M,h2⟩:=D.lis i o H p hp;exact h ⟨p.1,T _ M,by rw[h2,e]⟩
  have U:execOp a.eval o=execOp (putL a0 qj (L.getD i [])).eval o:=by
   refine execOp_congr o (D.sel i o H) fun x hx=> ?_
   cases x with
   | tmp t =>
    have:=a6 t (List.mem_append_left _ (List.mem_filterMap.2 ⟨.tmp t,by simpa using hx,rfl⟩));simp only[Act.eval,Array.getD_eq_getD_getElem?,this]
   | _=>rfl
  have c0:=a8.at i o H;rw[Nat.zero_add] at c0;have J:=c0 qj w I.s fun p hp=>I.phi _ (T _ (D.lis i o H p hp).1)
  have next:∀v w',R w w'→S w'→Φ i v w'→wpAny P .any l.toArray Q E (f.setIfInBounds i true) (a.put o.dst v) w':=by
   intro v w' hR hS hΦ;have X:qbj l i=o.dst:=by unfold qbj;rw[H];rfl
   refine ih (f.setIfInBounds i true) (a.put o.dst v) w' (fun j=>if j=i then v else qj j) ⟨?_,hS,?_,?_,?_,?_,?_,?_⟩ ?_
   ·rw[Array.size_setIfInBounds];exact I.size
   ·intro j z;rcases (qac O).1 z with rfl | F
    ·simpa using hΦ
    ·have V:j≠i:=by rintro rfl;rw[Y] at F;cases F
     simp only[if_neg V];exact Z j _ w w' I.s hS hR (I.phi j F)
   ·intro j z k hk;refine(qac O).2 ?_;rcases (qac O).1 z with rfl | F
    ·exact .inr (T k hk)
    ·exact .inr (I.shut j F k hk)
   ·cases o.dst<;>exact I.defers
   ·cases hd:o.dst with
    | none=>exact I.tmps
    | some d=>simpa [Act.put] using I.tmps
   ·intro t ht;have M:=I.other t fun j z=>ht j ((qac O).2 (.inr z))
    have h2:=ht i ((qac O).2 (.inl rfl));rw[X] at h2;cases hd:o.dst with
    | none=>exact M
    | some d =>
     have V:d≠t:=by rintro rfl;exact h2 hd
     simpa [Act.put,Array.getElem?_setIfInBounds_ne V] using M
   ·intro j t z C;rcases (qac O).1 z with rfl | F
    ·rw[X] at C;rw[C,if_pos rfl];have:t<a.tmps.size:=by rw[I.tmps,hn];exact(D.slot j t (by rw[X,C])).1
     simp[Act.put,this]
    ·have V:j≠i:=by rintro rfl;rw[Y] at F;cases F
     rw[if_neg V];have M:=I.at_ j t F C;cases hd:o.dst with
     | none=>exact M
     | some d =>
      have b9:d≠t:=by
       rintro rfl;exact V ((D.slot i d (by rw[X,hd])).2 j C)
      simpa [Act.put,Array.getElem?_setIfInBounds_ne b9] using M
   ·have M:(List.range l.length).countP (fun j=> !(f.setIfInBounds i true).getD j false)<(List.range l.length).countP (fun j=> !f.getD j false):=by
     have b8:i∈List.range l.length:=List.mem_range.2 K;obtain⟨s,r,c5⟩:=List.append_of_mem b8;rw[c5,List.countP_append,List.countP_append,List.countP_cons,List.countP_cons];have m:∀xs:List Nat,xs.countP (fun j=> !(f.setIfInBounds i true).getD j false)≤xs.countP (fun j=> !f.getD j false):=by
      intro xs;refine List.countP_mono_left fun j _ z=> ?_
      cases h:f.getD j false with
      | false=>rfl
      | true=>rw[(qac O).2 (.inr h)] at z;cases z
     have m1:=m s;have m2:=m r;rw[qey O,Y];simp only[Bool.not_true,Bool.not_false,Bool.false_eq_true,if_false,if_true];omega
    omega
  unfold wpOp;rw[ho];simp only;cases hg:o.guard with
  | none =>
   rw[hg] at J;rw[if_pos (by unfold Region.wanted;rw[hg])];exact .inl (qhb U J fun v w' h=>next v w' h.1 h.2.1 h.2.2)
  | some gb =>
   obtain⟨g,b⟩:=gb;rw[hg] at J;obtain⟨c4,t,b7⟩:=D.guard i o H g b hg;have b6:=T g c4;have c3:=I.at_ g t b6 b7;obtain⟨p1,p2⟩:=J (I.phi g b6);have hy:Region.wanted o (yielded l.toArray a.tmps)=true↔qj g = .bool b:=by
    unfold Region.wanted yielded;rw[hg];have e1:(l.toArray[g]?).bind (·.dst)=some t:=by simpa [qbj] using b7
    simp only[e1,Option.bind_some,c3];constructor
    ·intro h;split at h
     ·rename_i b' b5;simp only[Option.some.injEq] at b5;simp at h;rw[b5,h]
     ·simp at h
    ·intro h;rw[h];simp
   by_cases hw:Region.wanted o (yielded l.toArray a.tmps)=true
   ·rw[if_pos hw];exact .inl (qhb U (p1 (hy.1 hw)) fun v w' h=>next v w' h.1 h.2.1 h.2.2)
   ·rw[if_neg hw];exact next undef w (c1 w) I.s (p2 fun h=>hw (hy.2 h))
theorem qbt(n i:Nat):(Array.replicate n false).getD i false=false:=by
 rw[Array.getD_eq_getD_getElem?,Array.getElem?_replicate];split<;>rfl
theorem zc4{id:Nat}{a:Act}{w:World}{Q:Exit→Act→World→Prop}(H:P.follows .mixedOrders=true)(L:List (List (Nat × Nat)))(n:Nat)(I:a.tmps.size=n)(E:q4w l (qrp l []) L n=true)(A:List (Nat × Nat))(C:qa6 l=A)
  (S:World→Prop) (R:World→World→Prop) (Φ:Nat→Value→World→Prop) (F:S w.drew) (q:∀w,R w w) (f:∀i v w w',S w→S w'→R w w'→Φ i v w→Φ i v w')
  (p:qag P a S R Φ 0 l L) (z:∀qj w,S w→(∀i,i<l.length→Φ i (qj i) w)→Q .normal (putL a qj A) w) :
  (Code.region id l.toArray true).wp P Q a w:=by
 subst C
 refine wp_region_any H ?_
 refine q9a (qwn E) I q f p z _ _ a _ (fun _=>undef) ⟨by simp,F,?_,?_,rfl,rfl,fun _ _=>rfl,?_⟩ ?_
 ·intro i m;rw[qbt] at m;cases m
 ·intro i m;rw[qbt] at m;cases m
 ·intro i t m;rw[qbt] at m;cases m
 ·refine Nat.le_trans List.countP_le_length ?_;simp
end
end Go.Proofs.YtfmkdoachjgjbaaGreatDoor
