/-
  Words of our own on worlds: 'Upd S w w'': the streams are as they were, no block has gone, and each old block outside S holds what it held.
-/
import Derived.WalkKit
import Derived.WalkSpells
import Derived.WalkLawsBesides
import Derived.BigQuiet
import Derived.Lib.Hide
import Derived.Deep.MidRow
import Derived.Laws.Tables
import Derived.Great.BuildSlice
set_option linter.unusedVariables false
set_option linter.unusedSimpArgs false
namespace Go.Proofs.YtjpmomdechibmaaGreatDoor
open Go.RowKit
theorem qb{p:Prop}(h:p):Hid p:=h
theorem qa{p:Prop}(h:Hid p):p:=h
structure Upd(S:Nat→Prop)(w w':World):Prop where
 os:w'.os=w.os
 tape:w'.tape=w.tape
 output:w'.output=w.output
 size:w.heap.size≤w'.heap.size
 block:∀k,k<w.heap.size→¬S k→w'.heap[k]? = w.heap[k]?
abbrev qx(w w':World):Prop:=Upd (fun _=>False) w w'
theorem Upd.refl(S:Nat→Prop)(w:World):Upd S w w:=⟨rfl,rfl,rfl,Nat.le_refl _,fun _ _ _=>rfl⟩
theorem Upd.trans{S:Nat→Prop}{a b c:World}(h:Upd S a b)(k:Upd S b c):Upd S a c :=
 ⟨k.os.trans h.os,k.tape.trans h.tape,k.output.trans h.output,Nat.le_trans h.size k.size,fun i f g=>(k.block i (Nat.lt_of_lt_of_le f h.size) g).trans (h.block i f g)⟩
theorem Upd.then{S T:Nat→Prop}{a b c:World}(h:Upd S a b)(k:Upd T b c)(j:∀i,i<a.heap.size→T i→S i):Upd S a c :=
 ⟨k.os.trans h.os,k.tape.trans h.tape,k.output.trans h.output,Nat.le_trans h.size k.size,fun i f g=>(k.block i (Nat.lt_of_lt_of_le f h.size) (fun t=>g (j i f t))).trans (h.block i f g)⟩
theorem Upd.mono{S T:Nat→Prop}{a b:World}(h:Upd S a b)(f:∀i,i<a.heap.size→S i→T i):Upd T a b :=
 (Upd.refl T a).then h f
theorem Upd.drew{S:Nat→Prop}{a w:World}(h:Upd S a w):Upd S a w.drew:=⟨h.os,h.tape,h.output,h.size,h.block⟩
theorem Upd.drewN{S:Nat→Prop}{a w:World}(h:Upd S a w)(n:Nat):Upd S a (w.drewN n):=⟨h.os,h.tape,h.output,h.size,h.block⟩
theorem Upd.alloc{S:Nat→Prop}{a w:World}(h:Upd S a w)(o:Obj):Upd S a (w.alloc o) :=
 ⟨h.os,h.tape,h.output,Nat.le_trans h.size (by simp),fun i f g=>(Below.heap_alloc w o i (Nat.lt_of_lt_of_le f h.size)).trans (h.block i f g)⟩
theorem Upd.setCell{S:Nat→Prop}{a w:World}(h:Upd S a w){p:Addr}(j:p.block<a.heap.size→S p.block)(u:Value):Upd S a (w.setCell p u) :=
 ⟨h.os,h.tape,h.output,by simpa [World.setCell] using h.size,fun i f g=>(Below.heap_setCell w p u i (by rintro rfl;exact g (j f))).trans (h.block i f g)⟩
theorem Upd.set1{a w:World}{b:Nat}(h:Upd (· = b) a w)(o:Nat)(u:Value):Upd (· = b) a (w.setCell ⟨b,o,none⟩ u):=h.setCell (fun _=>rfl) u
theorem Upd.grown{S:Nat→Prop}{a w w':World}{row:Option Nat}(h:Upd S a w)(f:w.grownBy w' row)(l:∀k,row=some k→k<a.heap.size→S k):Upd S a w' :=
 ⟨f.os.trans h.os,f.tape.trans h.tape,f.output.trans h.output,Nat.le_trans h.size f.size,
  fun i g j=>(f.block i (Nat.lt_of_lt_of_le g h.size) (fun e=>j (l i e.symm g))).trans (h.block i g j)⟩
theorem Upd.below{B:Nat}{a w:World}(h:Upd (fun k=>B≤k) a w)(f:B≤a.heap.size):Below B a w :=
 ⟨h.os,h.tape,h.output,h.size,fun k g=>h.block k (by omega) (by omega)⟩
theorem Upd.below'{S:Nat→Prop}{B:Nat}{a w:World}(h:Upd S a w)(i:B≤a.heap.size)(f:∀k,S k→B≤k):Below B a w :=
 ⟨h.os,h.tape,h.output,h.size,fun k j=>h.block k (by omega) (fun g=>by have:=f k g;omega)⟩
theorem Upd.of_below{B:Nat}{a w:World}(h:Below B a w)(f:a.heap.size≤B):qx a w :=
 ⟨h.os,h.tape,h.output,h.size,fun k g _=>h.block k (by omega)⟩
theorem Upd.old{S:Nat→Prop}{a w:World}(h:Upd S a w){k:Nat}{o:Obj}(f:a.heap[k]? = some o)(g:¬S k):w.heap[k]? = some o :=
 (h.block k (Array.getElem?_eq_some_iff.1 f).1 g).trans f
theorem Upd.cell{S:Nat→Prop}{a w:World}(h:Upd S a w){p:Addr}{v:Value}(f:a.cell? p=some v)(g:¬S p.block):w.cell? p=some v :=
 (World.cell?_of_block (h.block p.block (World.block_lt_of_cell? a p f) g)).trans f
def Q(w w':World):Prop:=∃n,w'=w.drewN n
theorem Q.refl(w:World):Q w w:=⟨0,rfl⟩
theorem Q.drewN(w:World)(n:Nat):Q w (w.drewN n):=⟨n,rfl⟩
theorem Q.drewN'{w w':World}(h:Q w w')(n:Nat):Q w (w'.drewN n):=by
 obtain⟨m,rfl⟩:=h
 exact⟨m+n,by rw[World.drewN_drewN]⟩
theorem Q.trans{a b c:World}(h:Q a b)(k:Q b c):Q a c:=by
 obtain⟨m,rfl⟩:=k
 exact h.drewN' m
theorem Q.heap{w w':World}(h:Q w w'):w'.heap=w.heap:=by
 obtain⟨m,rfl⟩:=h
 rfl
theorem Q.upd{w w':World}(h:Q w w')(S:Nat→Prop):Upd S w w':=by
 obtain⟨m,rfl⟩:=h
 exact(Upd.refl S w).drewN m
theorem Q.old{w w':World}(h:Q w w'){k:Nat}{o:Obj}(f:w.heap[k]? = some o):w'.heap[k]? = some o:=by rw[h.heap];exact f
theorem Q.cell{w w':World}(h:Q w w'){p:Addr}{v:Value}(f:w.cell? p=some v):w'.cell? p=some v:=by
 obtain⟨m,rfl⟩:=h
 exact f
theorem Q.frozen{w w':World}(h:Q w w'){p:Addr}{v:Bool}(f:w.frozen? p=v):w'.frozen? p=v:=by
 obtain⟨m,rfl⟩:=h
 exact f
def qci(v:Value)(w:World)(e:Ending)(w':World):Prop:=e = .returned v∧Q w w'
def qa5(v:Value)(w:World)(e:Ending)(w':World):Prop:=e = .returned v∧qx w w'
theorem zq{w:World}{b:Nat}{o:Obj}(h:w.heap[b]? = some o):b<w.heap.size:=(Array.getElem?_eq_some_iff.1 h).1
theorem qg{w:World}{b:Nat}{cs:Array Value}{T:TypeId}{f:Nat × Nat}(h:w.heap[b]? = some (.cells cs T f))(i:Nat):w.cell? ⟨b,i,none⟩=cs[i]? := by
 simp[World.cell?,h]
theorem qm{w:World}{b:Nat}{cs:Array Value}{T:TypeId}(h:w.heap[b]? = some (.cells cs T (0,0)))(i:Nat):w.frozen? ⟨b,i,none⟩=false:=by
 simp[World.frozen?,h]
theorem zu{w:World}{b:Nat}{cs:Array Value}{T:TypeId}{f:Nat × Nat}(h:w.heap[b]? = some (.cells cs T f))(i:Nat)(v:Value) :
  (w.setCell ⟨b,i,none⟩ v).heap[b]? = some (.cells (cs.setIfInBounds i v) T f):=by
 simp[World.setCell,Array.getElem?_modify,h]
theorem qi(w:World)(o:Obj):(w.alloc o).heap[w.heap.size]? = some o:=heap_alloc_new w o
theorem zj{w:World}{b:Nat}{o:Obj}(h:w.heap[b]? = some o)(x:Obj):(w.alloc x).heap[b]? = some o :=
 (Below.heap_alloc w x b (zq h)).trans h
def bt(s:ByteArray)(n:Nat):Int:=(s.data.toList.getD n 0).toNat
theorem qvf(s:ByteArray)(n:Nat):0≤bt s n∧bt s n≤255:=by
 unfold bt
 have:=(s.data.toList.getD n 0).toNat_lt
 omega
theorem zdi(s:ByteArray)(n:Nat)(h:n<s.size):(s[n].toNat:Int)=bt s n:=by
 have f:n<s.data.size:=h
 unfold bt
 rw[List.getD_eq_getElem?_getD,Array.getElem?_toList,Array.getElem?_eq_getElem f]
 rfl
theorem qmc{P:Program}(t:TypeId)(s:ByteArray)(k:IntKind)(i:Int)(n:Nat)(h:P.underlying t=some .string)(f:i=n)(g:n<s.size)(w:World) :
  (Instr.index t (.string s) (.int k i)).run P w = .ok (.int .u8 (bt s n)) w:=by
 subst f
 rw[run_index_string w t s k _ h,dif_pos (by omega),←zdi s n g]
 rfl
theorem qt1(n:Nat)(h:n<9223372036854775808):IntKind.i64.wrap (n:Int)=n:=by
 simp[IntKind.wrap,IntKind.bits,IntKind.signed]
 split<;>omega
theorem qws(n:Nat)(h:n<18446744073709551616):(BitVec.ofInt 64 (n:Int)).toNat=n:=by
 simp[BitVec.ofInt]
 omega
theorem qeb{P:Program}(w:World)(g f e:TypeId)(t:P.underlying g=some (.slice e))(o:P.underlying e=some (.int .u8))(m:P.underlying f=some .string)
  (b cap:Nat) (xs:List Int) (T:TypeId) (j:Nat × Nat) (n:Nat) (q:xs.length=n) (l:w.heap[b]? = some (.cells (xs.map (Value.int .u8)).toArray T j)) :
  (convert g f (.slice (some ⟨b,0,none⟩) n cap)).run P w = .ok (.string (strOfNums xs)) w:=by
 refine run_convert_bytes_arg w g e t o b 0 n cap xs q (fun i v=> ?_) f m
 rw[Nat.zero_add,qg l i,List.getElem?_toArray,List.getElem?_map,List.getElem?_eq_getElem (by omega)]
 simp[List.getD,List.getElem?_eq_getElem (show i<xs.length by omega)]
def zr(w:World)(b o n:Nat):Option (Array Value) :=
 match w.heap[b]? with
 | some (.cells C _ _)=>if o+n≤C.size then some (C.extract o (o+n)) else none
 | _=>none
def qdk(P:Program)(f:TypeId)(w:World)(b o:Nat):Result Value:=(loadVar f ⟨b,o,none⟩).run P w
theorem qid{w:World}{b o n:Nat}{A:Array Value}(h:zr w b o n=some A):A.size=n∧∀j,j<n→w.cell? ⟨b,o+j,none⟩=A[j]? := by
 unfold zr at h
 cases f:w.heap[b]? with
 | none=>rw[f] at h;cases h
 | some i =>
  rw[f] at h
  cases i with
  | cells C T l =>
   simp only at h
   split at h
   ·rename_i g
    injection h with h
    subst h
    refine⟨by simp;omega,fun j m=> ?_⟩
    rw[qg f,Array.getElem?_extract,if_pos (by omega)]
   ·cases h
  | _=>cases h
theorem qum{w:World}{b o n:Nat}{A:Array Value}(h:zr w b o n=some A):w.rangeAt b o A.toList:=by
 obtain⟨l,g⟩:=qid h
 intro j v f
 rw[Array.getElem?_toList] at f
 have i:j<n:=by
  have:=(Array.getElem?_eq_some_iff.1 f).1
  omega
 rw[g j i,f]
theorem qbz{w:World}{b:Nat}{C:Array Value}{T:TypeId}{f:Nat × Nat}(h:w.heap[b]? = some (.cells C T f))(o n:Nat)(g:o+n≤C.size):zr w b o n=some (C.extract o (o+n)):=by
 unfold zr
 rw[h]
 simp only
 rw[if_pos g]
theorem qaj{w:World}{b:Nat}{C:Array Value}{T:TypeId}{f:Nat × Nat}(h:w.heap[b]? = some (.cells C T f))(n:Nat)(g:C.size=n):zr w b 0 n=some C:=by
 rw[qbz h 0 n (by omega)]
 simp[←g]
theorem q33{w w':World}(b:Nat)(h:w'.heap[b]? = w.heap[b]?)(o n:Nat):zr w' b o n=zr w b o n:=by unfold zr;rw[h]
theorem qkb{S:Nat→Prop}{w w':World}{b o n:Nat}{A:Array Value}(h:zr w b o n=some A)(u:Upd S w w')(g:¬S b):zr w' b o n=some A:=by
 rw[q33 b (u.block b ?_ g)]
 ·exact h
 ·by_cases f:b<w.heap.size
  ·exact f
  ·have e:w.heap[b]? = none:=by simp;omega
   unfold zr at h
   rw[e] at h
   cases h
theorem zt{P:Program}(f n:Nat)(d:TypeDesc)(j:P.underlying f=some d)(g:d.isRow=true)(i:(P.info? f).map (·.size)=some n)(b o:Nat)(w:World) :
  (Instr.loadAt f (.pointer (some ⟨b,o,none⟩))).run P w=match zr w b o n with | some A=> .ok (.agg A) w | none=>qdk P f w b o:=by
 cases h:zr w b o n with
 | none =>
  simp only[Instr.loadAt,Instr.sureAddr,Sem.run_bind,Sem.run_pure,Result.andThen_ok,qdk]
 | some A =>
  simp only
  rw[run_loadAt_mid w b o f A.toList d (qum h) j g (by rw[i,Array.length_toList,(qid h).1])]
def stOk(w:World)(b o n:Nat)(A:Array Value):Bool :=
 (match w.heap[b]? with | some (.cells C _ f)=>decide (o+n≤C.size)&&decide (f=(0,0)) | _=>false)&&decide (A.size=n)&&A.all (·.oneCell')
def qfe(P:Program)(f:TypeId)(w:World)(b o:Nat)(A:Array Value):Result Unit:=(Instr.storeAt f (.pointer (some ⟨b,o,none⟩)) (.agg A)).run P w
theorem qe0{w:World}{b:Nat}{C:Array Value}{T:TypeId}(h:w.heap[b]? = some (.cells C T (0,0))){o n:Nat}(i:o+n≤C.size){A:Array Value}(g:A.size=n)(f:A.all (·.oneCell')=true):stOk w b o n A=true:=by
 unfold stOk
 rw[h]
 simp only[f,Bool.and_true]
 simp[i,g]
theorem q0d{w:World}{b o n:Nat}{A:Array Value}(h:stOk w b o n A=true):w.there b o A.size∧A.size=n∧A.all (·.oneCell')=true:=by
 unfold stOk at h
 cases f:w.heap[b]? with
 | none=>rw[f] at h;simp at h
 | some l =>
  rw[f] at h
  cases l with
  | cells C T m =>
   simp only[Bool.and_eq_true,decide_eq_true_eq] at h
   obtain⟨⟨⟨q,rfl⟩,g⟩,i⟩:=h
   refine⟨fun j t=>⟨?_,qm f _⟩,g,i⟩
   rw[qg f,Array.getElem?_eq_getElem (by omega)]
   rfl
  | _=>simp at h
theorem qap{P:Program}(f n:Nat)(l:(P.info? f).map (·.size)=some n)(b o:Nat)(A:Array Value)(w:World) :
  (Instr.storeAt f (.pointer (some ⟨b,o,none⟩)) (.agg A)).run P w=if stOk w b o n A=true then .ok () (w.setCells b o A.toList) else qfe P f w b o A:=by
 by_cases h:stOk w b o n A=true
 ·rw[if_pos h]
  obtain⟨g,i,j⟩:=q0d h
  exact run_storeAt_mid w b o f A g (by rw[l,i]) j
 ·rw[if_neg h]
  rfl
def qj1(C:Array Value)(o:Nat):List Value→Array Value
 | []=>C
 | v::r=>qj1 (C.setIfInBounds o v) (o+1) r
theorem qa1{w:World}{b:Nat}{C:Array Value}{T:TypeId}{g:Nat × Nat}(h:w.heap[b]? = some (.cells C T g))(o:Nat)(f:List Value):(w.setCells b o f).heap[b]? = some (.cells (qj1 C o f) T g):=by
 induction f generalizing w C o with
 | nil=>exact h
 | cons v r i=>exact i (zu h o v) (o+1)
theorem qpu(C:Array Value)(o:Nat)(f:List Value):(qj1 C o f).size=C.size:=by
 induction f generalizing C o with
 | nil=>rfl
 | cons v r g=>rw[qj1,g,Array.size_setIfInBounds]
theorem qh0(C:Array Value)(o:Nat)(f:List Value)(i:Nat)(h:o+f.length≤C.size):(qj1 C o f)[i]? = if o≤i∧i<o+f.length then f[i-o]? else C[i]? := by
 induction f generalizing C o with
 | nil=>simp[qj1];intro g j;omega
 | cons v r l =>
  rw[qj1,l _ _ (by simp only[List.length_cons] at h;rw[Array.size_setIfInBounds];omega)]
  simp only[List.length_cons] at h ⊢
  by_cases g:o+1≤i∧i<o+1+r.length
  ·rw[if_pos g,if_pos (by omega)]
   obtain⟨k,rfl⟩:∃k,i=o+1+k:=⟨i-(o+1),by omega⟩
   rw[show o+1+k-(o+1)=k by omega,show o+1+k-o=k+1 by omega,List.getElem?_cons_succ]
  ·rw[if_neg g,Array.getElem?_setIfInBounds]
   by_cases j:o=i
   ·subst j
    rw[if_pos rfl,if_pos (by omega),if_pos (by omega)]
    simp
   ·rw[if_neg j,if_neg (by omega)]
theorem Upd.setCells{w w':World}{b:Nat}(h:Upd (· = b) w w')(o:Nat)(f:List Value):Upd (· = b) w (w'.setCells b o f):=by
 induction f generalizing w' o with
 | nil=>exact h
 | cons v r g=>exact g (h.set1 o v) (o+1)
theorem zn(w:World)(b o n:Nat):zr w.drew b o n=zr w b o n:=rfl
section
variable {P:Program}{ops:Array Oper}{rest:List Oper}{o:Oper}{a:Act}{w w':World}{Q:Exit→Act→World→Prop}
theorem q9{v:Value}(g:o.guard=none)(h:(execOp a.eval o).run P w = .ok (.value v) w')(k:wpList P ops Q rest (a.put o.dst v) w'):wpList P ops Q (o::rest) a w :=
 wpList_plain g fun K f=>by
  unfold Oper.wp
  rw[h]
  exact f _ _ k
theorem qde{f:FuncId}{args:Array Value}(l:o.guard=none)(h:(execOp a.eval o).run P w = .ok (.enter f args) w')
  (k:Calls P f args w' fun e g=>∃v,e = .returned v∧wpList P ops Q rest (a.put o.dst v) g):wpList P ops Q (o::rest) a w :=
 wpList_plain l fun K i=>by
  unfold Oper.wp
  rw[h]
  simp only[Oper.upon]
  refine k.mono fun e g j=> ?_
  obtain⟨v,rfl,m⟩:=j
  exact i _ _ m
end
theorem Upd.setRow{S:Nat→Prop}{a w:World}(h:Upd S a w){g:Nat}(l:g<a.heap.size→S g)(cs:Array Value):Upd S a (w.setRow g cs) :=
 ⟨h.os,h.tape,h.output,by simpa using h.size,fun i f j=>by
  rw[setRow_other _ _ _ _ (show i≠g from fun e=>j (e▸l (e▸f)))]
  exact h.block i f j⟩
theorem qvx(A P Z R:List Value)(h:Z.length=A.length):(A.zipIdx).foldl (fun(cs:Array Value) (c,j)=>cs.setIfInBounds (P.length+j) c) (P++(Z++R)).toArray=(P++(A++R)).toArray:=by
 have key:∀(A:List Value) (k:Nat) (Q Z:List Value),Z.length=A.length→Q.length=P.length+k→(A.zipIdx k).foldl (fun(cs:Array Value) (c,j)=>cs.setIfInBounds (P.length+j) c) (Q++(Z++R)).toArray=(Q++(A++R)).toArray:=by
  intro A
  induction A with
  | nil=>intro k Q Z f _;rw[List.length_eq_zero_iff.1 f];rfl
  | cons a A i =>
   intro k Q Z f g
   cases Z with
   | nil=>simp at f
   | cons z Z =>
    rw[List.zipIdx_cons,List.foldl_cons]
    have e:(Q++(z::Z++R)).toArray.setIfInBounds (P.length+k) a=((Q++[a])++(Z++R)).toArray:=by
     rw[←g];simp
    show List.foldl _ ((Q++(z::Z++R)).toArray.setIfInBounds (P.length+k) a) _=_
    rw[e,i (k+1) (Q++[a]) Z (by simpa using f) (by simp[g];omega)]
    simp
 exact key A 0 P Z h rfl
theorem qbv{P:Program}{t:TypeId}{it:TypeInfo}{z:Value}{g:Array Field}{places:List (Nat × Nat)}(l:P.info? t=some it)(o:P.underlying t=some (.struct g))(q:it.zero=some z)
  (m:g.toList.mapM (fun f=>(P.info? f.type).map fun i=>(f.offset,i.size))=some places) (j:List (Nat × Value)):P.built t j=Instr.fill (places.toArray[·]?) z.cells j:=by
 unfold Program.built
 rw[l,o]
 simp only[q,m]
theorem qdo{P:Program}{t:TypeId}{l:List Value}(h:((P.info? t).map fun i=>i.zero.map fun z=>z.cells.toList)=some (some l)):∃i z,P.info? t=some i∧i.zero=some z∧z.cells=l.toArray:=by
 cases g:P.info? t with
 | none=>rw[g] at h;simp at h
 | some i =>
  rw[g,Option.map_some,Option.some.injEq] at h
  cases f:i.zero with
  | none=>rw[f] at h;simp at h
  | some z =>
   rw[f,Option.map_some,Option.some.injEq] at h
   exact⟨i,z,rfl,f,by rw[←h]⟩
theorem qee{f:Nat→Option (Nat × Nat)}{i off:Nat}{A P Z R:List Value}{cs:Array Value}(o:f i=some (off,A.length))(m:P.length=off)(j:Z.length=A.length)(l:cs=(P++(Z++R)).toArray)(rest:List (Nat × Value)) :
  Instr.fill f cs ((i,.agg A.toArray)::rest)=Instr.fill f (P++(A++R)).toArray rest:=by
 subst l m
 rw[Instr.fill,o]
 have q:¬(A.toArray.size≠A.length || P.length+A.toArray.size>(P++(Z++R)).toArray.size)=true:=by
  simp[j]
 have g:((Value.agg A.toArray).cells.size≠A.length || P.length+(Value.agg A.toArray).cells.size>(P++(Z++R)).toArray.size)=false:=by
  simpa [Value.cells] using q
 simp only[g,Bool.false_eq_true,if_false]
 congr 1
 have:=qvx A P Z R j
 simpa [Value.cells] using this
end Go.Proofs.YtjpmomdechibmaaGreatDoor
