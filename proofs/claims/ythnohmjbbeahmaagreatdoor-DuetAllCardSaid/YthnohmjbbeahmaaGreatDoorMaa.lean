/-
  Words of our own on worlds: 'Upd S w w'': the streams are as they were, no block has gone, and each old block outside S holds what it held.
-/
import Derived.WalkKit
import Derived.WalkSpells
import Derived.WalkLawsBesides
import Derived.BigQuiet
import Derived.Lib.Hide
import Derived.Deep.MidRow
import Derived.Laws.Tables
import Derived.Great.BuildSlice
import Derived.Test.YthnohmjbbeahmaaGreatDoorProg
import Derived.Test.YthnohmjbbeahmaaGreatDoorRows
import Derived.IntWalk
import Derived.Outline
import Derived.Deep.CutRange
import Derived.BigRegion
import Derived.Deep.RegionLaw
import Derived.Lib.LazyBuf
set_option linter.unusedVariables false
set_option linter.unusedSimpArgs false
namespace Go.Proofs.YthnohmjbbeahmaaGreatDoor
open Go.RowKit
theorem qb{p:Prop}(h:p):Hid p:=h
theorem qa{p:Prop}(h:Hid p):p:=h
structure Upd(S:Nat→Prop)(w w':World):Prop where
 os:w'.os=w.os
 tape:w'.tape=w.tape
 output:w'.output=w.output
 size:w.heap.size≤w'.heap.size
 block:∀k,k<w.heap.size→¬S k→w'.heap[k]? = w.heap[k]?
abbrev qu(w w':World):Prop:=Upd (fun _=>False) w w'
theorem Upd.refl(S:Nat→Prop)(w:World):Upd S w w:=⟨rfl,rfl,rfl,Nat.le_refl _,fun _ _ _=>rfl⟩
theorem Upd.trans{S:Nat→Prop}{a b c:World}(h:Upd S a b)(k:Upd S b c):Upd S a c :=
 ⟨k.os.trans h.os,k.tape.trans h.tape,k.output.trans h.output,Nat.le_trans h.size k.size,fun i g l=>(k.block i (Nat.lt_of_lt_of_le g h.size) l).trans (h.block i g l)⟩
theorem Upd.then{S T:Nat→Prop}{a b c:World}(h:Upd S a b)(k:Upd T b c)(m:∀i,i<a.heap.size→T i→S i):Upd S a c :=
 ⟨k.os.trans h.os,k.tape.trans h.tape,k.output.trans h.output,Nat.le_trans h.size k.size,fun i g l=>(k.block i (Nat.lt_of_lt_of_le g h.size) (fun t=>l (m i g t))).trans (h.block i g l)⟩
theorem Upd.mono{S T:Nat→Prop}{a b:World}(h:Upd S a b)(g:∀i,i<a.heap.size→S i→T i):Upd T a b :=
 (Upd.refl T a).then h g
theorem Upd.drew{S:Nat→Prop}{a w:World}(h:Upd S a w):Upd S a w.drew:=⟨h.os,h.tape,h.output,h.size,h.block⟩
theorem Upd.drewN{S:Nat→Prop}{a w:World}(h:Upd S a w)(n:Nat):Upd S a (w.drewN n):=⟨h.os,h.tape,h.output,h.size,h.block⟩
theorem Upd.alloc{S:Nat→Prop}{a w:World}(h:Upd S a w)(o:Obj):Upd S a (w.alloc o) :=
 ⟨h.os,h.tape,h.output,Nat.le_trans h.size (by simp),fun i g l=>(Below.heap_alloc w o i (Nat.lt_of_lt_of_le g h.size)).trans (h.block i g l)⟩
theorem Upd.setCell{S:Nat→Prop}{a w:World}(h:Upd S a w){p:Addr}(m:p.block<a.heap.size→S p.block)(u:Value):Upd S a (w.setCell p u) :=
 ⟨h.os,h.tape,h.output,by simpa [World.setCell] using h.size,fun i g l=>(Below.heap_setCell w p u i (by rintro rfl;exact l (m g))).trans (h.block i g l)⟩
theorem Upd.set1{a w:World}{b:Nat}(h:Upd (· = b) a w)(o:Nat)(u:Value):Upd (· = b) a (w.setCell ⟨b,o,none⟩ u):=h.setCell (fun _=>rfl) u
theorem Upd.grown{S:Nat→Prop}{a w w':World}{row:Option Nat}(h:Upd S a w)(g:w.grownBy w' row)(o:∀k,row=some k→k<a.heap.size→S k):Upd S a w' :=
 ⟨g.os.trans h.os,g.tape.trans h.tape,g.output.trans h.output,Nat.le_trans h.size g.size,
  fun i l m=>(g.block i (Nat.lt_of_lt_of_le l h.size) (fun e=>m (o i e.symm l))).trans (h.block i l m)⟩
theorem Upd.below{B:Nat}{a w:World}(h:Upd (fun k=>B≤k) a w)(g:B≤a.heap.size):Below B a w :=
 ⟨h.os,h.tape,h.output,h.size,fun k i=>h.block k (by omega) (by omega)⟩
theorem Upd.below'{S:Nat→Prop}{B:Nat}{a w:World}(h:Upd S a w)(l:B≤a.heap.size)(g:∀k,S k→B≤k):Below B a w :=
 ⟨h.os,h.tape,h.output,h.size,fun k m=>h.block k (by omega) (fun i=>by have:=g k i;omega)⟩
theorem Upd.of_below{B:Nat}{a w:World}(h:Below B a w)(g:a.heap.size≤B):qu a w :=
 ⟨h.os,h.tape,h.output,h.size,fun k i _=>h.block k (by omega)⟩
theorem Upd.old{S:Nat→Prop}{a w:World}(h:Upd S a w){k:Nat}{o:Obj}(g:a.heap[k]? = some o)(i:¬S k):w.heap[k]? = some o :=
 (h.block k (Array.getElem?_eq_some_iff.1 g).1 i).trans g
theorem Upd.cell{S:Nat→Prop}{a w:World}(h:Upd S a w){p:Addr}{v:Value}(g:a.cell? p=some v)(i:¬S p.block):w.cell? p=some v :=
 (World.cell?_of_block (h.block p.block (World.block_lt_of_cell? a p g) i)).trans g
def Q(w w':World):Prop:=∃n,w'=w.drewN n
theorem Q.refl(w:World):Q w w:=⟨0,rfl⟩
theorem Q.drewN(w:World)(n:Nat):Q w (w.drewN n):=⟨n,rfl⟩
theorem Q.drewN'{w w':World}(h:Q w w')(n:Nat):Q w (w'.drewN n):=by
 obtain⟨m,rfl⟩:=h;exact⟨m+n,by rw[World.drewN_drewN]⟩
theorem Q.trans{a b c:World}(h:Q a b)(k:Q b c):Q a c:=by
 obtain⟨m,rfl⟩:=k;exact h.drewN' m
theorem Q.heap{w w':World}(h:Q w w'):w'.heap=w.heap:=by
 obtain⟨m,rfl⟩:=h;rfl
theorem Q.upd{w w':World}(h:Q w w')(S:Nat→Prop):Upd S w w':=by
 obtain⟨m,rfl⟩:=h;exact(Upd.refl S w).drewN m
theorem Q.old{w w':World}(h:Q w w'){k:Nat}{o:Obj}(g:w.heap[k]? = some o):w'.heap[k]? = some o:=by rw[h.heap];exact g
theorem Q.cell{w w':World}(h:Q w w'){p:Addr}{v:Value}(g:w.cell? p=some v):w'.cell? p=some v:=by
 obtain⟨m,rfl⟩:=h;exact g
theorem Q.frozen{w w':World}(h:Q w w'){p:Addr}{v:Bool}(g:w.frozen? p=v):w'.frozen? p=v:=by
 obtain⟨m,rfl⟩:=h;exact g
def qce(v:Value)(w:World)(e:Ending)(w':World):Prop:=e = .returned v∧Q w w'
def qbr(v:Value)(w:World)(e:Ending)(w':World):Prop:=e = .returned v∧qu w w'
theorem z6{w:World}{b:Nat}{o:Obj}(h:w.heap[b]? = some o):b<w.heap.size:=(Array.getElem?_eq_some_iff.1 h).1
theorem qh{w:World}{b:Nat}{cs:Array Value}{T:TypeId}{g:Nat × Nat}(h:w.heap[b]? = some (.cells cs T g))(i:Nat):w.cell? ⟨b,i,none⟩=cs[i]? := by
 simp[World.cell?,h]
theorem qv{w:World}{b:Nat}{cs:Array Value}{T:TypeId}(h:w.heap[b]? = some (.cells cs T (0,0)))(i:Nat):w.frozen? ⟨b,i,none⟩=false:=by
 simp[World.frozen?,h]
theorem z7{w:World}{b:Nat}{cs:Array Value}{T:TypeId}{g:Nat × Nat}(h:w.heap[b]? = some (.cells cs T g))(i:Nat)(v:Value) :
  (w.setCell ⟨b,i,none⟩ v).heap[b]? = some (.cells (cs.setIfInBounds i v) T g):=by
 simp[World.setCell,Array.getElem?_modify,h]
theorem qi(w:World)(o:Obj):(w.alloc o).heap[w.heap.size]? = some o:=heap_alloc_new w o
theorem zj{w:World}{b:Nat}{o:Obj}(h:w.heap[b]? = some o)(x:Obj):(w.alloc x).heap[b]? = some o :=
 (Below.heap_alloc w x b (z6 h)).trans h
def bt(s:ByteArray)(n:Nat):Int:=(s.data.toList.getD n 0).toNat
theorem qx7(s:ByteArray)(n:Nat):0≤bt s n∧bt s n≤255:=by
 unfold bt;have:=(s.data.toList.getD n 0).toNat_lt;omega
theorem zh4(s:ByteArray)(n:Nat)(h:n<s.size):(s[n].toNat:Int)=bt s n:=by
 have g:n<s.data.size:=h;unfold bt;rw[List.getD_eq_getElem?_getD,Array.getElem?_toList,Array.getElem?_eq_getElem g];rfl
theorem qn3{P:Program}(t:TypeId)(s:ByteArray)(k:IntKind)(i:Int)(n:Nat)(h:P.underlying t=some .string)(g:i=n)(l:n<s.size)(w:World) :
  (Instr.index t (.string s) (.int k i)).run P w = .ok (.int .u8 (bt s n)) w:=by
 subst g
 rw[run_index_string w t s k _ h,dif_pos (by omega),←zh4 s n l]
 rfl
theorem qwh(n:Nat)(h:n<9223372036854775808):IntKind.i64.wrap (n:Int)=n:=by
 simp[IntKind.wrap,IntKind.bits,IntKind.signed];split<;>omega
theorem qzm(n:Nat)(h:n<18446744073709551616):(BitVec.ofInt 64 (n:Int)).toNat=n:=by
 simp[BitVec.ofInt];omega
theorem qe6{P:Program}(w:World)(l g e:TypeId)(v:P.underlying l=some (.slice e))(q:P.underlying e=some (.int .u8))(hd:P.underlying g=some .string)
  (b cap:Nat) (xs:List Int) (T:TypeId) (m:Nat × Nat) (n:Nat) (t:xs.length=n) (o:w.heap[b]? = some (.cells (xs.map (Value.int .u8)).toArray T m)) :
  (convert l g (.slice (some ⟨b,0,none⟩) n cap)).run P w = .ok (.string (strOfNums xs)) w:=by
 refine run_convert_bytes_arg w l e v q b 0 n cap xs t (fun i z=> ?_) g hd
 rw[Nat.zero_add,qh o i,List.getElem?_toArray,List.getElem?_map,List.getElem?_eq_getElem (by omega)]
 simp[List.getD,List.getElem?_eq_getElem (show i<xs.length by omega)]
def zm(w:World)(b o n:Nat):Option (Array Value) :=
 match w.heap[b]? with
 | some (.cells C _ _)=>if o+n≤C.size then some (C.extract o (o+n)) else none
 | _=>none
def qek(P:Program)(g:TypeId)(w:World)(b o:Nat):Result Value:=(loadVar g ⟨b,o,none⟩).run P w
theorem qfm{w:World}{b o n:Nat}{A:Array Value}(h:zm w b o n=some A):A.size=n∧∀j,j<n→w.cell? ⟨b,o+j,none⟩=A[j]? := by
 unfold zm at h;cases g:w.heap[b]? with
 | none=>rw[g] at h;cases h
 | some l =>
  rw[g] at h;cases l with
  | cells C T m =>
   simp only at h;split at h
   ·rename_i i;injection h with h;subst h;refine⟨by simp;omega,fun j q=> ?_⟩;rw[qh g,Array.getElem?_extract,if_pos (by omega)]
   ·cases h
  | _=>cases h
theorem qxb{w:World}{b o n:Nat}{A:Array Value}(h:zm w b o n=some A):w.rangeAt b o A.toList:=by
 obtain⟨l,g⟩:=qfm h;intro j v hv;rw[Array.getElem?_toList] at hv;have i:j<n:=by
  have:=(Array.getElem?_eq_some_iff.1 hv).1;omega
 rw[g j i,hv]
theorem qbz{w:World}{b:Nat}{C:Array Value}{T:TypeId}{g:Nat × Nat}(h:w.heap[b]? = some (.cells C T g))(o n:Nat)(i:o+n≤C.size):zm w b o n=some (C.extract o (o+n)):=by
 unfold zm;rw[h];simp only;rw[if_pos i]
theorem qad{w:World}{b:Nat}{C:Array Value}{T:TypeId}{g:Nat × Nat}(h:w.heap[b]? = some (.cells C T g))(n:Nat)(i:C.size=n):zm w b 0 n=some C:=by
 rw[qbz h 0 n (by omega)];simp[←i]
theorem q7r{w w':World}(b:Nat)(h:w'.heap[b]? = w.heap[b]?)(o n:Nat):zm w' b o n=zm w b o n:=by unfold zm;rw[h]
theorem qa9{S:Nat→Prop}{w w':World}{b o n:Nat}{A:Array Value}(h:zm w b o n=some A)(u:Upd S w w')(i:¬S b):zm w' b o n=some A:=by
 rw[q7r b (u.block b ?_ i)]
 ·exact h
 ·by_cases g:b<w.heap.size
  ·exact g
  ·have e:w.heap[b]? = none:=by simp;omega
   unfold zm at h;rw[e] at h;cases h
theorem qae{P:Program}(g n:Nat)(d:TypeDesc)(l:P.underlying g=some d)(hd:d.isRow=true)(i:(P.info? g).map (·.size)=some n)(b o:Nat)(w:World) :
  (Instr.loadAt g (.pointer (some ⟨b,o,none⟩))).run P w=match zm w b o n with | some A=> .ok (.agg A) w | none=>qek P g w b o:=by
 cases h:zm w b o n with
 | none =>
  simp only[Instr.loadAt,Instr.sureAddr,Sem.run_bind,Sem.run_pure,Result.andThen_ok,qek]
 | some A =>
  simp only;rw[run_loadAt_mid w b o g A.toList d (qxb h) l hd (by rw[i,Array.length_toList,(qfm h).1])]
def stOk(w:World)(b o n:Nat)(A:Array Value):Bool :=
 (match w.heap[b]? with | some (.cells C _ g)=>decide (o+n≤C.size)&&decide (g=(0,0)) | _=>false)&&decide (A.size=n)&&A.all (·.oneCell')
def qf2(P:Program)(g:TypeId)(w:World)(b o:Nat)(A:Array Value):Result Unit:=(Instr.storeAt g (.pointer (some ⟨b,o,none⟩)) (.agg A)).run P w
theorem qf3{w:World}{b:Nat}{C:Array Value}{T:TypeId}(h:w.heap[b]? = some (.cells C T (0,0))){o n:Nat}(l:o+n≤C.size){A:Array Value}(i:A.size=n)(g:A.all (·.oneCell')=true):stOk w b o n A=true:=by
 unfold stOk;rw[h];simp only[g,Bool.and_true];simp[l,i]
theorem q3f{w:World}{b o n:Nat}{A:Array Value}(h:stOk w b o n A=true):w.there b o A.size∧A.size=n∧A.all (·.oneCell')=true:=by
 unfold stOk at h;cases g:w.heap[b]? with
 | none=>rw[g] at h;simp at h
 | some m =>
  rw[g] at h;cases m with
  | cells C T q =>
   simp only[Bool.and_eq_true,decide_eq_true_eq] at h;obtain⟨⟨⟨t,rfl⟩,i⟩,l⟩:=h;refine⟨fun j v=>⟨?_,qv g _⟩,i,l⟩;rw[qh g,Array.getElem?_eq_getElem (by omega)];rfl
  | _=>simp at h
theorem qax{P:Program}(g n:Nat)(q:(P.info? g).map (·.size)=some n)(b o:Nat)(A:Array Value)(w:World) :
  (Instr.storeAt g (.pointer (some ⟨b,o,none⟩)) (.agg A)).run P w=if stOk w b o n A=true then .ok () (w.setCells b o A.toList) else qf2 P g w b o A:=by
 by_cases h:stOk w b o n A=true
 ·rw[if_pos h];obtain⟨i,l,m⟩:=q3f h;exact run_storeAt_mid w b o g A i (by rw[q,l]) m
 ·rw[if_neg h];rfl
def qkd(C:Array Value)(o:Nat):List Value→Array Value
 | []=>C
 | v::r=>qkd (C.setIfInBounds o v) (o+1) r
theorem qa2{w:World}{b:Nat}{C:Array Value}{T:TypeId}{i:Nat × Nat}(h:w.heap[b]? = some (.cells C T i))(o:Nat)(g:List Value):(w.setCells b o g).heap[b]? = some (.cells (qkd C o g) T i):=by
 induction g generalizing w C o with
 | nil=>exact h
 | cons v r l=>exact l (z7 h o v) (o+1)
theorem qmr(C:Array Value)(o:Nat)(g:List Value):(qkd C o g).size=C.size:=by
 induction g generalizing C o with
 | nil=>rfl
 | cons v r i=>rw[qkd,i,Array.size_setIfInBounds]
theorem qha(C:Array Value)(o:Nat)(g:List Value)(i:Nat)(h:o+g.length≤C.size):(qkd C o g)[i]? = if o≤i∧i<o+g.length then g[i-o]? else C[i]? := by
 induction g generalizing C o with
 | nil=>simp[qkd];intro l m;omega
 | cons v r q =>
  rw[qkd,q _ _ (by simp only[List.length_cons] at h;rw[Array.size_setIfInBounds];omega)];simp only[List.length_cons] at h ⊢;by_cases l:o+1≤i∧i<o+1+r.length
  ·rw[if_pos l,if_pos (by omega)];obtain⟨k,rfl⟩:∃k,i=o+1+k:=⟨i-(o+1),by omega⟩;rw[show o+1+k-(o+1)=k by omega,show o+1+k-o=k+1 by omega,List.getElem?_cons_succ]
  ·rw[if_neg l,Array.getElem?_setIfInBounds];by_cases m:o=i
   ·subst m;rw[if_pos rfl,if_pos (by omega),if_pos (by omega)];simp
   ·rw[if_neg m,if_neg (by omega)]
theorem Upd.setCells{w w':World}{b:Nat}(h:Upd (· = b) w w')(o:Nat)(g:List Value):Upd (· = b) w (w'.setCells b o g):=by
 induction g generalizing w' o with
 | nil=>exact h
 | cons v r i=>exact i (h.set1 o v) (o+1)
theorem zb(w:World)(b o n:Nat):zm w.drew b o n=zm w b o n:=rfl
section
variable {P:Program}{ops:Array Oper}{rest:List Oper}{o:Oper}{a:Act}{w w':World}{Q:Exit→Act→World→Prop}
theorem q8{v:Value}(i:o.guard=none)(h:(execOp a.eval o).run P w = .ok (.value v) w')(k:wpList P ops Q rest (a.put o.dst v) w'):wpList P ops Q (o::rest) a w :=
 wpList_plain i fun K g=>by
  unfold Oper.wp;rw[h];exact g _ _ k
theorem qd7{f:FuncId}{args:Array Value}(m:o.guard=none)(h:(execOp a.eval o).run P w = .ok (.enter f args) w')
  (k:Calls P f args w' fun e g=>∃v,e = .returned v∧wpList P ops Q rest (a.put o.dst v) g):wpList P ops Q (o::rest) a w :=
 wpList_plain m fun K i=>by
  unfold Oper.wp;rw[h];simp only[Oper.upon];refine k.mono fun e g l=> ?_
  obtain⟨v,rfl,hv⟩:=l;exact i _ _ hv
end
theorem Upd.setRow{S:Nat→Prop}{a w:World}(h:Upd S a w){g:Nat}(q:g<a.heap.size→S g)(cs:Array Value):Upd S a (w.setRow g cs) :=
 ⟨h.os,h.tape,h.output,by simpa using h.size,fun i l m=>by
  rw[setRow_other _ _ _ _ (show i≠g from fun e=>m (e▸q (e▸l)))];exact h.block i l m⟩
theorem qyr(A P Z R:List Value)(h:Z.length=A.length):(A.zipIdx).foldl (fun(cs:Array Value) (c,j)=>cs.setIfInBounds (P.length+j) c) (P++(Z++R)).toArray=(P++(A++R)).toArray:=by
 have key:∀(A:List Value) (k:Nat) (Q Z:List Value),Z.length=A.length→Q.length=P.length+k→(A.zipIdx k).foldl (fun(cs:Array Value) (c,j)=>cs.setIfInBounds (P.length+j) c) (Q++(Z++R)).toArray=(Q++(A++R)).toArray:=by
  intro A
  induction A with
  | nil=>intro k Q Z g _;rw[List.length_eq_zero_iff.1 g];rfl
  | cons a A l =>
   intro k Q Z g i;cases Z with
   | nil=>simp at g
   | cons z Z =>
    rw[List.zipIdx_cons,List.foldl_cons];have e:(Q++(z::Z++R)).toArray.setIfInBounds (P.length+k) a=((Q++[a])++(Z++R)).toArray:=by
     rw[←i];simp
    show List.foldl _ ((Q++(z::Z++R)).toArray.setIfInBounds (P.length+k) a) _=_;rw[e,l (k+1) (Q++[a]) Z (by simpa using g) (by simp[i];omega)];simp
 exact key A 0 P Z h rfl
theorem qcb{P:Program}{t:TypeId}{it:TypeInfo}{z:Value}{g:Array Field}{places:List (Nat × Nat)}(m:P.info? t=some it)(q:P.underlying t=some (.struct g))(v:it.zero=some z)
  (o:g.toList.mapM (fun f=>(P.info? f.type).map fun i=>(f.offset,i.size))=some places) (l:List (Nat × Value)):P.built t l=Instr.fill (places.toArray[·]?) z.cells l:=by
 unfold Program.built
 rw[m,q]
 simp only[v,o]
theorem qec{P:Program}{t:TypeId}{l:List Value}(h:((P.info? t).map fun i=>i.zero.map fun z=>z.cells.toList)=some (some l)):∃i z,P.info? t=some i∧i.zero=some z∧z.cells=l.toArray:=by
 cases m:P.info? t with
 | none=>rw[m] at h;simp at h
 | some i =>
  rw[m,Option.map_some,Option.some.injEq] at h;cases g:i.zero with
  | none=>rw[g] at h;simp at h
  | some z =>
   rw[g,Option.map_some,Option.some.injEq] at h;exact⟨i,z,rfl,g,by rw[←h]⟩
theorem qe9{g:Nat→Option (Nat × Nat)}{i off:Nat}{A P Z R:List Value}{cs:Array Value}(t:g i=some (off,A.length))(q:P.length=off)(m:Z.length=A.length)(o:cs=(P++(Z++R)).toArray)(rest:List (Nat × Value)) :
  Instr.fill g cs ((i,.agg A.toArray)::rest)=Instr.fill g (P++(A++R)).toArray rest:=by
 subst o q
 rw[Instr.fill,t]
 have v:¬(A.toArray.size≠A.length || P.length+A.toArray.size>(P++(Z++R)).toArray.size)=true:=by
  simp[m]
 have l:((Value.agg A.toArray).cells.size≠A.length || P.length+(Value.agg A.toArray).cells.size>(P++(Z++R)).toArray.size)=false:=by
  simpa [Value.cells] using v
 simp only[l,Bool.false_eq_true,if_false]
 congr 1
 have:=qyr A P Z R m
 simpa [Value.cells] using this
structure SetupV where
 ch:Int
 cap:Int
 ours:Int
 seed:List Int
 key:ByteArray
 peer:ByteArray
def SetupV.cells(s:SetupV):List Value:= .int .u32 s.ch :: .int .u64 s.cap :: .int .u64 s.ours::(s.seed.map (Value.int .u8)++[.string s.key,.string s.peer])
structure SetupV.Ok(s:SetupV):Prop where
 ch:0≤s.ch∧s.ch<4294967296
 cap:0≤s.cap∧s.cap<18446744073709551616
 ours:0≤s.ours∧s.ours<18446744073709551616
 seed:s.seed.length=32
theorem SetupV.len(s:SetupV)(h:s.seed.length=32):s.cells.length=37:=by simp[SetupV.cells,h]
structure KeptV where
 full:Bool
 number:Int
 told:List Int
def KeptV.cells(k:KeptV):List Value:= .bool k.full :: .int .i64 k.number::k.told.map (Value.int .u8)
def KeptV.zero:KeptV:=⟨false,0,List.replicate 32 0⟩
structure CountsV where
 signed:Int
 heard:Int
 awaits:Bool
 nextOwn:Int
 nextTheirs:Int
 shutSaid:Bool
 shutHeard:Bool
 revoked:Bool
def CountsV.cells(k:CountsV):List Value:=[.int .i64 k.signed,.int .i64 k.heard,.bool k.awaits,.int .u64 k.nextOwn,.int .u64 k.nextTheirs,.bool k.shutSaid,.bool k.shutHeard,.bool k.revoked]
def CountsV.zero:CountsV:=⟨0,0,false,0,0,false,false,false⟩
structure ChanV where
 setup:SetupV
 k:CountsV
 loc:Int
 rem:Int
 live:Value
 shelf:List KeptV
 news:Value
 last:Value
def ChanV.told(c:ChanV):List Value:=c.shelf.flatMap KeptV.cells
def ChanV.rest(c:ChanV):List Value:= .int .u64 c.loc :: .int .u64 c.rem::c.live::(c.told++[c.news,c.last])
def ChanV.cells(c:ChanV):List Value:=c.setup.cells++(c.k.cells++c.rest)
def qcd:Value:= .slice none 0 0
def ChanV.new(s:SetupV):ChanV:=⟨s,.zero,s.ours,s.cap-s.ours,qcd,List.replicate 17 .zero,qcd,qcd⟩
structure ChR(w:World)(g:Nat)(c:ChanV):Prop where
 at_:w.heap[g]? = some (.cells c.cells.toArray 106 (0,0))
 seed:c.setup.seed.length=32
theorem ChR.lt{w:World}{g:Nat}{c:ChanV}(h:ChR w g c):g<w.heap.size:=z6 h.at_
theorem ChR.upd{S:Nat→Prop}{w w':World}{g:Nat}{c:ChanV}(h:ChR w g c)(u:Upd S w w')(i:¬S g):ChR w' g c:=⟨u.old h.at_ i,h.seed⟩
theorem ChR.new{w w':World}{g:Nat}{c:ChanV}(h:ChR w g c)(u:qu w w'):ChR w' g c:=h.upd u (fun h=>h)
theorem ChR.free{w:World}{g:Nat}{c:ChanV}(h:ChR w g c)(i:Nat):w.frozen? ⟨g,i,none⟩=false:=qv h.at_ i
theorem ChR.cell{w:World}{g:Nat}{c:ChanV}(h:ChR w g c)(i:Nat):w.cell? ⟨g,i,none⟩=c.cells[i]? := by
 rw[qh h.at_,List.getElem?_toArray]
theorem q5m(c:ChanV)(h:c.setup.seed.length=32)(i:Nat)(l:i<37):c.cells[i]? = c.setup.cells[i]? := by
 unfold ChanV.cells;rw[List.getElem?_append_left (by rw[c.setup.len h];exact l)]
theorem qoi(c:ChanV)(h:c.setup.seed.length=32)(i:Nat):c.cells[37+i]? = (c.k.cells++c.rest)[i]? := by
 unfold ChanV.cells;rw[List.getElem?_append_right (by rw[c.setup.len h];omega),c.setup.len h,Nat.add_sub_cancel_left]
theorem ChR.low{w:World}{g:Nat}{c:ChanV}(h:ChR w g c)(i:Nat)(l:i<37):w.cell? ⟨g,i,none⟩=c.setup.cells[i]? := (h.cell i).trans (q5m c h.seed i l)
theorem ChR.mid{w:World}{g:Nat}{c:ChanV}(h:ChR w g c)(i:Nat):w.cell? ⟨g,37+i,none⟩=(c.k.cells++c.rest)[i]? := (h.cell _).trans (qoi c h.seed i)
section
variable {w:World}{g:Nat}{c:ChanV}(h:ChR w g c)
include h
theorem ChR.ch:w.cell? ⟨g,0,none⟩=some (.int .u32 c.setup.ch):=h.low 0 (by omega)
theorem ChR.cap:w.cell? ⟨g,1,none⟩=some (.int .u64 c.setup.cap):=h.low 1 (by omega)
theorem ChR.signed:w.cell? ⟨g,37,none⟩=some (.int .i64 c.k.signed):=h.mid 0
theorem ChR.heard:w.cell? ⟨g,38,none⟩=some (.int .i64 c.k.heard):=h.mid 1
theorem ChR.awaits:w.cell? ⟨g,39,none⟩=some (.bool c.k.awaits):=h.mid 2
theorem ChR.nextOwn:w.cell? ⟨g,40,none⟩=some (.int .u64 c.k.nextOwn):=h.mid 3
theorem ChR.nextTheirs:w.cell? ⟨g,41,none⟩=some (.int .u64 c.k.nextTheirs):=h.mid 4
theorem ChR.shutSaid:w.cell? ⟨g,42,none⟩=some (.bool c.k.shutSaid):=h.mid 5
theorem ChR.shutHeard:w.cell? ⟨g,43,none⟩=some (.bool c.k.shutHeard):=h.mid 6
theorem ChR.revoked:w.cell? ⟨g,44,none⟩=some (.bool c.k.revoked):=h.mid 7
theorem ChR.loc:w.cell? ⟨g,45,none⟩=some (.int .u64 c.loc):=h.mid 8
theorem ChR.rem:w.cell? ⟨g,46,none⟩=some (.int .u64 c.rem):=h.mid 9
theorem ChR.live:w.cell? ⟨g,47,none⟩=some c.live:=h.mid 10
end
def qs8:List Value:=qcd::((List.replicate 17 KeptV.zero).flatMap KeptV.cells++[qcd,qcd])
def qxp:List Value:= .int .u32 0 :: .int .u64 0 :: .int .u64 0::((List.replicate 32 0).map (Value.int .u8)++[.string ⟨#[]⟩,.string ⟨#[]⟩])
theorem Tryz.zeroChan:((Tryz.prog.info? 106).map fun i=>i.zero.map fun z=>z.cells.toList)=some (some (qxp++(CountsV.zero.cells++([.int .u64 0,.int .u64 0]++qs8)))):=by kernel_rfl
theorem Tryz.placesChan:∃l,Tryz.prog.underlying 106=some (.struct l)∧l.toList.mapM (fun f=>(Tryz.prog.info? f.type).map fun i=>(f.offset,i.size))=some [(0,37),(37,8),(45,2),(47,1),(48,578),(626,1),(627,1)]:=⟨_,Tryz.underlying106,by kernel_rfl⟩
theorem q09(S:List Value)(a b:Value)(l:S.length=37):Tryz.prog.built 106 [(0,.agg S.toArray),(2,.agg [a,b].toArray)]=some (S++(CountsV.zero.cells++([a,b]++qs8))).toArray:=by
 obtain⟨i,z,o,v,m⟩:=qec Tryz.zeroChan;obtain⟨C,t,q⟩:=Tryz.placesChan;rw[qcb o t v q];rw[qe9 (P:=[]) (A:=S) (Z:=qxp) (R:=CountsV.zero.cells++([.int .u64 0,.int .u64 0]++qs8)) (off:=0) (by rw[l];rfl) rfl (by rw[l];rfl) m];rw[qe9 (P:=S++CountsV.zero.cells) (A:=[a,b]) (Z:=[.int .u64 0,.int .u64 0]) (R:=qs8) (off:=45) (by rfl) (by rw[List.length_append,l];rfl) rfl (by simp)];rw[Instr.fill];simp
def q8t(p:Array (Nat × Value)):Sem Value:=Instr.build 106 p
theorem qvo(p:Array (Nat × Value)):Instr.build 106 p=q8t p:=rfl
theorem zc7(s:SetupV)(i:s.seed.length=32)(a b:Value)(w:World):(q8t #[(0,.agg s.cells.toArray),(2,.agg #[a,b])]).run Tryz.prog w = .ok (.agg (s.cells++(CountsV.zero.cells++([a,b]++qs8))).toArray) w :=
 run_build w _ _ _ (q09 s.cells a b (s.len i))
theorem Tryz.infoSetup:(Tryz.prog.info? 66).map (·.size)=some 37:=by kernel_rfl
def q4j(x:Value):Sem Value:=Instr.loadAt 66 x
theorem qfa(x:Value):Instr.loadAt 66 x=q4j x:=rfl
theorem qk8(b o:Nat)(w:World):(q4j (.pointer (some ⟨b,o,none⟩))).run Tryz.prog w=match zm w b o 37 with | some A=> .ok (.agg A) w | none=>qek Tryz.prog 66 w b o :=
 qae 66 37 _ Tryz.underlying66 rfl Tryz.infoSetup b o w
def ql9(w:World)(b:Nat)(s:SetupV):Prop:=w.heap[b]? = some (.cells s.cells.toArray 66 (0,0))
theorem ql9.upd{S:Nat→Prop}{w w':World}{g:Nat}{s:SetupV}(h:ql9 w g s)(u:Upd S w w')(i:¬S g):ql9 w' g s:=u.old h i
theorem ql9.new{w w':World}{g:Nat}{s:SetupV}(h:ql9 w g s)(u:qu w w'):ql9 w' g s:=h.upd u (fun h=>h)
theorem ql9.lt{w:World}{g:Nat}{s:SetupV}(h:ql9 w g s):g<w.heap.size:=z6 h
theorem ql9.drew{w:World}{g:Nat}{s:SetupV}(h:ql9 w g s):ql9 w.drew g s:=h
theorem ql9.row{w:World}{b:Nat}{s:SetupV}(h:ql9 w b s)(g:s.seed.length=32):zm w b 0 37=some s.cells.toArray:=by
 rw[qbz h 0 37 (by simp[s.len g])];congr 1;apply Array.ext';rw[Array.toList_extract];show List.take 37 (List.drop 0 s.cells)=s.cells;rw[List.drop_zero,List.take_of_length_le (by rw[s.len g];exact Nat.le_refl _)]
theorem ql9.cell{w:World}{b:Nat}{s:SetupV}(h:ql9 w b s)(i:Nat):w.cell? ⟨b,i,none⟩=s.cells[i]? := by rw[qh h,List.getElem?_toArray]
theorem SetupV.c35(s:SetupV)(h:s.seed.length=32):s.cells[35]? = some (.string s.key):=by
 unfold SetupV.cells;rw[List.getElem?_cons_succ,List.getElem?_cons_succ,List.getElem?_cons_succ,List.getElem?_append_right (by simp[h])];simp[h]
theorem SetupV.c36(s:SetupV)(h:s.seed.length=32):s.cells[36]? = some (.string s.peer):=by
 unfold SetupV.cells;rw[List.getElem?_cons_succ,List.getElem?_cons_succ,List.getElem?_cons_succ,List.getElem?_append_right (by simp[h])];simp[h]
attribute [local go_sem ↓ high] qfa qvo
attribute [local go_sem] qk8
def SetupV.may(s:SetupV):Prop:=1≤s.cap∧s.cap≤1125899906842624∧s.ours≤s.cap∧s.key.size≤64∧s.peer.size≤64
theorem q68(s:SetupV):s.cells++(CountsV.zero.cells++([.int .u64 s.ours,.int .u64 (s.cap-s.ours)]++qs8))=(ChanV.new s).cells:=by
 unfold ChanV.new ChanV.cells ChanV.rest ChanV.told qs8;simp
set_option maxRecDepth 100000 in
set_option maxHeartbeats 1000000 in
theorem qzj(s:SetupV)(m:s.Ok)(w:World):Calls Tryz.prog 47 #[.agg s.cells.toArray] w fun e w' =>
  (s.may∧∃g,e = .returned (.pointer (some ⟨g,0,none⟩))∧w.heap.size≤g∧ChR w' g (.new s)∧qu w w')∨(¬s.may∧e = .returned (.pointer none)∧qu w w'):=by
 go_enter Tryz.func47,Tryz.ntmps47
 go_upto_region 1 with fail
 have l:ql9 (w.alloc (.cells s.cells.toArray 66)) w.heap.size s:=qi _ _
 have i:qu w (w.alloc (.cells s.cells.toArray 66)):=(Upd.refl _ _).alloc _
 generalize w.alloc (.cells s.cells.toArray 66)=w1 at l i ⊢
 have D:=l.lt
 have v:=l.row m.seed
 have H:w1.cell? ⟨w.heap.size,1,none⟩=some (.int .u64 s.cap):=l.cell 1
 have I:w1.cell? ⟨w.heap.size,2,none⟩=some (.int .u64 s.ours):=l.cell 2
 have z:w1.cell? ⟨w.heap.size,35,none⟩=some (.string s.key):=(l.cell 35).trans (s.c35 m.seed)
 have C:w1.cell? ⟨w.heap.size,36,none⟩=some (.string s.peer):=(l.cell 36).trans (s.c36 m.seed)
 obtain⟨a0,a1⟩:=m.cap
 obtain⟨b0,b1⟩:=m.ours
 have t:=zc7 s m.seed (.int .u64 s.ours) (.int .u64 (s.cap-s.ours))
 rw[q68] at t
 by_cases J:s.cap<1
 ·go_wp2;go_ret;exact .inr ⟨(fun h=>by have:=h.1;omega),rfl,i⟩
 by_cases K:1125899906842624<s.cap
 ·go_wp2;go_ret;exact .inr ⟨(fun h=>by have:=h.2.1;omega),rfl,i⟩
 by_cases L:s.cap<s.ours
 ·go_wp2;go_ret;exact .inr ⟨(fun h=>by have:=h.2.2.1;omega),rfl,i⟩
 by_cases M:64<s.key.size
 ·have o:64<(s.key.size:Int):=by omega
  go_wp2;go_ret;exact .inr ⟨(fun h=>by have:=h.2.2.2.1;omega),rfl,i⟩
 by_cases N:64<s.peer.size
 ·have o:¬64<(s.key.size:Int):=by omega
  have q:64<(s.peer.size:Int):=by omega
  go_wp2;go_ret;exact .inr ⟨(fun h=>by have:=h.2.2.2.2;omega),rfl,i⟩
 ·have o:¬64<(s.key.size:Int):=by omega
  have q:¬64<(s.peer.size:Int):=by omega
  have O:IntKind.u64.wrap (s.cap-s.ours)=s.cap-s.ours:=by rw[IntKind.wrap_u64];omega
  go_wp2;go_ret;have E:s.may:=⟨by omega,by omega,by omega,by omega,by omega⟩;have F:qu w (w1.alloc (.cells (ChanV.new s).cells.toArray 106)):=i.alloc _;exact .inl ⟨E,w1.heap.size,rfl,i.size,⟨qi _ _,m.seed⟩,F⟩
end Go.Proofs.YthnohmjbbeahmaaGreatDoor
namespace Go.Proofs.YthnohmjbbeahmaaGreatDoor
open Go.RowKit
structure Htlc where
 id:Int
 amount:Int
 hash:Vector Int 32
 expiry:Int
structure Live where
 h:Htlc
 own:Bool
 state:Int
 paid:Bool
structure Item where
 offered:Bool
 h:Htlc
def ze(h:Htlc):List Value:= .int .u64 h.id :: .int .u64 h.amount::(h.hash.toList.map (Value.int .u8)++[.int .i64 h.expiry])
def ql(x:Live):List Value:=ze x.h++[.bool x.own,.int .i64 x.state,.bool x.paid]
def zf(x:Item):List Value:= .bool x.offered::ze x.h
structure HtlcOk(h:Htlc):Prop where
 id:0≤h.id∧h.id≤18446744073709551615
 amount:0≤h.amount∧h.amount≤18446744073709551615
 hash:∀n∈h.hash.toList,0≤n∧n≤255
 expiry : -9223372036854775808≤h.expiry∧h.expiry≤9223372036854775807
structure LiveOk(x:Live):Prop where
 h:HtlcOk x.h
 state : -9223372036854775808≤x.state∧x.state≤9223372036854775807
theorem qbh(h:Htlc):(ze h).length=35:=by simp[ze]
theorem qa5(x:Live):(ql x).length=38:=by simp[ql,qbh]
theorem qco(x:Item):(zf x).length=36:=by simp[zf,qbh]
theorem zaw(x:Live):(ql x)[0]? = some (.int .u64 x.h.id):=rfl
theorem qwl(x:Live):(ql x)[1]? = some (.int .u64 x.h.amount):=rfl
theorem qh6(x:Live):(ql x)[35]? = some (.bool x.own):=by
 unfold ql;rw[List.getElem?_append_right (by rw[qbh];omega),qbh];rfl
theorem qgm(x:Live):(ql x)[36]? = some (.int .i64 x.state):=by
 unfold ql;rw[List.getElem?_append_right (by rw[qbh];omega),qbh];rfl
theorem qnm(x:Live):(ql x)[37]? = some (.bool x.paid):=by
 unfold ql;rw[List.getElem?_append_right (by rw[qbh];omega),qbh];rfl
theorem qk3(h:Htlc):∀v∈ze h,v.oneCell'=true:=by
 intro v hv;simp only[ze,List.mem_cons,List.mem_append,List.mem_map,List.not_mem_nil,or_false] at hv;rcases hv with rfl | rfl | ⟨n,_,rfl⟩ | rfl<;>rfl
theorem qrz(x:Item):∀v∈zf x,v.oneCell'=true:=by
 intro v hv;rcases List.mem_cons.1 hv with rfl | hv
 ·rfl
 ·exact qk3 _ v hv
theorem Tryz.infoLive:(Tryz.prog.info? 56).map (·.size)=some 38:=by kernel_rfl
theorem Tryz.infoHtlc:(Tryz.prog.info? 54).map (·.size)=some 35:=by kernel_rfl
def zaq(x:Value):Sem Value:=Instr.loadAt 56 x
theorem qdf(x:Value):Instr.loadAt 56 x=zaq x:=rfl
theorem qh5(b o:Nat)(w:World):(zaq (.pointer (some ⟨b,o,none⟩))).run Tryz.prog w=match zm w b o 38 with | some A=> .ok (.agg A) w | none=>qek Tryz.prog 56 w b o :=
 qae 56 38 _ Tryz.underlying56 rfl Tryz.infoLive b o w
def zao(x:Value):Sem Value:=Instr.loadAt 54 x
theorem qwk(x:Value):Instr.loadAt 54 x=zao x:=rfl
theorem zd6(b o:Nat)(w:World):(zao (.pointer (some ⟨b,o,none⟩))).run Tryz.prog w=match zm w b o 35 with | some A=> .ok (.agg A) w | none=>qek Tryz.prog 54 w b o :=
 qae 54 35 _ Tryz.underlying54 rfl Tryz.infoHtlc b o w
def zch(x v:Value):Sem Unit:=Instr.storeAt 56 x v
theorem qeb(x v:Value):Instr.storeAt 56 x v=zch x v:=rfl
theorem qj8(b o:Nat)(A:Array Value)(w:World):(zch (.pointer (some ⟨b,o,none⟩)) (.agg A)).run Tryz.prog w=if stOk w b o 38 A=true then .ok () (w.setCells b o A.toList) else qf2 Tryz.prog 56 w b o A :=
 qax 56 38 Tryz.infoLive b o A w
def qgz(w:World)(g off:Nat)(xs:List Live):Prop :=
 ∃C T l,w.heap[g]? = some (.cells C T l)∧off+xs.length*38≤C.size∧∀i x,xs[i]? = some x→∀j,j<38→C[off+i*38+j]? = (ql x)[j]?
theorem qgz.row{w:World}{g off:Nat}{xs:List Live}(h:qgz w g off xs){i:Nat}{x:Live}(o:xs[i]? = some x):zm w g (off+i*38) 38=some (ql x).toArray:=by
 obtain⟨C,T,z,q,D,t⟩:=h;have m:i<xs.length:=(List.getElem?_eq_some_iff.1 o).1;have l:off+i*38+38≤C.size:=by have:=Nat.mul_le_mul_right 38 (show i+1≤xs.length from m);omega
 rw[qbz q _ _ l];congr 1;apply Array.ext';apply List.ext_getElem?;intro j;rw[Array.getElem?_toList,Array.getElem?_extract];by_cases v:j<38
 ·rw[if_pos (by omega),t i x o j v]
 ·rw[if_neg (by omega),List.getElem?_eq_none (by rw[qa5];omega)]
theorem qgz.upd{S:Nat→Prop}{w w':World}{b off:Nat}{xs:List Live}(h:qgz w b off xs)(u:Upd S w w')(l:¬S b):qgz w' b off xs:=by
 obtain⟨C,T,g,i,r⟩:=h;exact⟨C,T,g,u.old i l,r⟩
theorem qgz.lt{w:World}{g off:Nat}{xs:List Live}(h:qgz w g off xs):g<w.heap.size:=by
 obtain⟨C,T,l,i,r⟩:=h;exact z6 i
def qio(w:World)(v:Value)(xs:List Live):Prop:=(∃a c,v = .slice a 0 c∧xs=[])∨∃g off cap,v = .slice (some ⟨g,off,none⟩) xs.length cap∧qgz w g off xs
theorem qio.new{w w':World}{v:Value}{xs:List Live}(h:qio w v xs)(u:qu w w'):qio w' v xs:=by
 rcases h with h | ⟨g,off,cap,e,h⟩
 ·exact .inl h
 ·exact .inr ⟨g,off,cap,e,h.upd u (fun h=>h)⟩
def qko(base:Nat)(w:World)(v:Value)(xs:List Live):Prop:=(∃a c,v = .slice a 0 c∧xs=[])∨∃g off cap,v = .slice (some ⟨g,off,none⟩) xs.length cap∧base≤g∧qgz w g off xs
theorem qko.to{base:Nat}{w:World}{v:Value}{xs:List Live}(h:qko base w v xs):qio w v xs:=by
 rcases h with h | ⟨g,off,cap,e,_,h⟩
 ·exact .inl h
 ·exact .inr ⟨g,off,cap,e,h⟩
theorem qko.new{base:Nat}{w w':World}{v:Value}{xs:List Live}(h:qko base w v xs)(u:qu w w'):qko base w' v xs:=by
 rcases h with h | ⟨g,off,cap,e,i,h⟩
 ·exact .inl h
 ·exact .inr ⟨g,off,cap,e,i,h.upd u (fun h=>h)⟩
theorem qko.row{base:Nat}{w:World}{v:Value}{xs:List Live}(h:qko base w v xs):∃a cap,v = .slice a xs.length cap∧∀(i:Nat) (x:Live),xs[i]? = some x→∃g off,a=some ⟨g,off,none⟩∧base≤g∧qgz w g off xs:=by
 rcases h with ⟨a,c,e,rfl⟩ | ⟨g,off,cap,e,l,m⟩
 ·exact⟨a,c,e,fun i x o=>by simp at o⟩
 ·exact⟨_,cap,e,fun i x _=>⟨g,off,rfl,l,m⟩⟩
theorem qcz(Z:Array Value)(C:List Value)(h:Z.size=C.length):qkd Z 0 C=C.toArray:=by
 apply Array.ext';apply List.ext_getElem?;intro j;rw[Array.getElem?_toList,qha _ _ _ _ (by omega)];by_cases i:j<C.length
 ·rw[if_pos (by omega)];simp
 ·have g:Z[j]? = none:=Array.getElem?_eq_none (by omega);rw[if_neg (by omega),g];exact(List.getElem?_eq_none (by simp;omega)).symm
theorem qnl(w:World)(Z:Array Value)(T:TypeId)(C:List Value)(g:Z.size=C.length) :
  ((w.alloc (.cells Z T)).setCells w.heap.size 0 C).heap[w.heap.size]? = some (.cells C.toArray T (0,0))∧qu w ((w.alloc (.cells Z T)).setCells w.heap.size 0 C):=by
 constructor
 ·rw[qa2 (qi w (.cells Z T)) 0 C,qcz Z C g]
 ·exact(((Upd.refl (· = w.heap.size) w).alloc _).setCells 0 C).mono (fun i l e=>by omega)
theorem qet(x:Live):∀v∈ql x,v.oneCell'=true:=by
 intro v hv;simp only[ql,List.mem_append,List.mem_cons,List.not_mem_nil,or_false] at hv;rcases hv with hv | rfl | rfl | rfl
 ·exact qk3 _ v hv
 ·rfl
 ·rfl
 ·rfl
theorem qzu{w w':World}{base:Nat}{e:TypeId}{size:Nat}{v:Value}{n:Nat}{xs:List Value}(h:w.ownsRow base e size v n xs)(u:qu w w'):w'.ownsRow base e size v n xs:=by
 refine⟨h.1,?_⟩;rcases h.2 with h | ⟨g,cap,i,l,m,o,r⟩
 ·exact .inl h
 ·exact .inr ⟨g,cap,i,l,m,u.old o (fun h=>h),r⟩
theorem qoy{w:World}{base:Nat}{e:TypeId}{size:Nat}{v:Value}{n:Nat}{xs:List Value}(h:w.ownsRow base e size v n xs):∃a k c,v = .slice a k c:=by
 rcases h.2 with ⟨rfl,_⟩ | ⟨g,cap,i,rfl,_⟩
 ·exact⟨_,_,_,rfl⟩
 ·exact⟨_,_,_,rfl⟩
theorem qnv{S:Nat→Prop}{w w':World}{base:Nat}{e:TypeId}{size:Nat}{v:Value}{n:Nat}{xs:List Value}(h:w.ownsRow base e size v n xs)(u:Upd S w w')(o:∀k,base≤k→¬S k):w'.ownsRow base e size v n xs:=by
 refine⟨h.1,?_⟩;rcases h.2 with h | ⟨g,cap,i,m,l,q,r⟩
 ·exact .inl h
 ·exact .inr ⟨g,cap,i,m,l,u.old q (o g l),r⟩
theorem qol(X:List Live):(X.flatMap ql).length=X.length*38:=by
 induction X with
 | nil=>rfl
 | cons x X g=>rw[List.flatMap_cons,List.length_append,g,qa5,List.length_cons];omega
theorem qt4:∀(X:List Live) (i j:Nat) (x:Live),X[i]? = some x→j<38→(X.flatMap ql)[i*38+j]? = (ql x)[j]? := by
 intro X
 induction X with
 | nil=>intro i j x h;simp at h
 | cons y X m =>
  intro i j x g l;rw[List.flatMap_cons];cases i with
  | zero =>
   simp only[List.getElem?_cons_zero,Option.some.injEq] at g;subst g;rw[List.getElem?_append_left (by rw[qa5];omega),Nat.zero_mul,Nat.zero_add]
  | succ i =>
   rw[List.getElem?_append_right (by rw[qa5];omega),qa5,show (i+1)*38+j-38=i*38+j by omega];exact m i j x (by simpa using g) l
theorem q51(X:List Live):∀u∈X.flatMap ql,u.oneCell'=true:=by
 intro u g;obtain⟨x,_,i⟩:=List.mem_flatMap.1 g;exact qet x u i
def qhe(w:World)(g off:Nat)(xs:List Live):Prop :=
 ∃C T,w.heap[g]? = some (.cells C T (0,0))∧off+xs.length*38≤C.size∧∀i x,xs[i]? = some x→∀j,j<38→C[off+i*38+j]? = (ql x)[j]?
theorem qhe.toL{w:World}{g off:Nat}{xs:List Live}(h:qhe w g off xs):qgz w g off xs:=by
 obtain⟨C,T,i,r⟩:=h;exact⟨C,T,_,i,r⟩
theorem qhe.row{w:World}{g off:Nat}{xs:List Live}(h:qhe w g off xs){i:Nat}{x:Live}(l:xs[i]? = some x):zm w g (off+i*38) 38=some (ql x).toArray:=h.toL.row l
theorem qhe.upd{S:Nat→Prop}{w w':World}{b off:Nat}{xs:List Live}(h:qhe w b off xs)(u:Upd S w w')(i:¬S b):qhe w' b off xs:=by
 obtain⟨C,T,g,r⟩:=h;exact⟨C,T,u.old g i,r⟩
theorem qgz.cells{w:World}{g off:Nat}{X:List Live}(h:qgz w g off X):∀j u,(X.flatMap ql)[j]? = some u→w.cell? ((⟨g,off,none⟩:Addr).add j)=some u:=by
 intro j u o;obtain⟨C,T,D,t,F,v⟩:=h;have E:j<X.length*38:=by
  have:=(List.getElem?_eq_some_iff.1 o).1;rwa [qol] at this
 have i:(⟨g,off,none⟩:Addr).add j=⟨g,off+j,none⟩:=by unfold Addr.add;split<;>simp_all
 rw[i,qh t];have z:j / 38<X.length:=Nat.div_lt_of_lt_mul (by omega);obtain⟨x,q⟩:∃x,X[j / 38]? = some x:=⟨_,List.getElem?_eq_getElem z⟩;have e:=Nat.div_add_mod j 38;have m:=Nat.mod_lt j (show 0<38 by decide);rw[←o,show off+j=off+j / 38*38+j%38 by omega,v _ x q _ m];have l:=qt4 X _ _ x q m;rw[show j / 38*38+j%38=j by omega] at l;exact l.symm
theorem qdo{w:World}{base:Nat}{v:Value}{n:Nat}{X:List Live}(h:w.ownsRow base 56 38 v n (X.flatMap ql)) :
  n=X.length∧((v = .slice none 0 0∧X=[])∨∃g cap,v = .slice (some ⟨g,0,none⟩) X.length cap∧base≤g∧qhe w g 0 X):=by
 have q:n=X.length:=by have:=h.1;rw[qol] at this;omega
 refine⟨q,?_⟩
 subst q
 rcases h.2 with ⟨e,e0⟩ | ⟨g,cap,l,e,t,C,z,_,F,E⟩
 ·exact .inl ⟨e,List.length_eq_zero_iff.1 e0⟩
 ·refine .inr ⟨g,cap,e,t,l,_,C,by have:=Nat.mul_le_mul_right 38 z;omega,fun i x o j D=> ?_⟩;have m:=(List.getElem?_eq_some_iff.1 o).1;rw[Nat.zero_add,←qt4 X i j x o D,←E,List.getElem?_take,if_pos (by have:=Nat.mul_le_mul_right 38 (show i+1≤X.length from m);omega),Array.getElem?_toList]
theorem Tryz.infoLiveB:(Tryz.prog.info? 56).map (fun i=>(i.size,i.bytes,i.zero.map (·.cells.size)))=some (38,80,some 38):=by kernel_rfl
theorem q62:∃i z,Tryz.prog.info? 56=some i∧i.zero=some z∧i.size=38∧i.bytes=80∧z.cells.size=38:=by
 have h:=Tryz.infoLiveB;cases m:Tryz.prog.info? 56 with
 | none=>rw[m] at h;simp at h
 | some i =>
  rw[m] at h;simp only[Option.map_some,Option.some.injEq,Prod.mk.injEq] at h;obtain⟨o,q,g⟩:=h;cases l:i.zero with
  | none=>rw[l] at g;simp at g
  | some z=>rw[l] at g;simp at g;exact⟨i,z,rfl,l,o,q,g⟩
set_option maxRecDepth 100000 in
set_option maxHeartbeats 1000000 in
theorem q5n(v:Value)(xs:List Live)(U:xs.length≤1048576)(w:World)(hv:qio w v xs) :
  Calls Tryz.prog 45 #[v] w fun e w'=>∃u,e = .returned u∧qu w w'∧((∃a c,u = .slice a 0 c∧xs=[])∨∃g cap,u = .slice (some ⟨g,0,none⟩) xs.length cap∧w.heap.size≤g∧qhe w' g 0 xs):=by
 have z:(∃c,v = .slice none 0 c∧xs=[])∨∃(a:Addr) (cap:Nat),v = .slice (some a) xs.length cap∧∀j u,(xs.flatMap ql)[j]? = some u→w.cell? (a.add j)=some u:=by
  rcases hv with ⟨a,c,rfl,rfl⟩ | ⟨g,off,cap,rfl,q⟩
  ·cases a with
   | none=>exact .inl ⟨_,rfl,rfl⟩
   | some a=>exact .inr ⟨a,c,rfl,by simp⟩
  ·exact .inr ⟨_,cap,rfl,q.cells⟩
 rcases z with ⟨c,rfl,rfl⟩ | ⟨a,cap,rfl,q⟩
 ·go_enter Tryz.func45,Tryz.ntmps45;have F:=fun(w:World)=>run_eql_slice_nil (P:=Tryz.prog) w 51 _ none 0 c Tryz.underlying51
  go_wp2
  first | go_ret2 | go_ret
  exact⟨_,rfl,Upd.refl _ _,.inl ⟨_,_,rfl,trivial⟩⟩
 ·obtain⟨M,X,J,L,C,D,E⟩:=q62;have F:=fun(w:World)=>run_eql_slice_nil (P:=Tryz.prog) w 51 _ (some a) xs.length cap Tryz.underlying51
  simp only[Option.isNone_some] at F;go_enter Tryz.func45,Tryz.ntmps45;go_wp2_with (at_builtin;refine wpList_append_own _ rfl (.tmp 5) (.tmp 6) 51 rfl w.heap.size 56 M _ 38 80 Tryz.underlying51 J L C D E (by decide) _ 0 [] rfl (World.ownsRow_made (base:=w.heap.size) w #[] 0 (Nat.le_refl _) (by decide) rfl) a xs.length cap (xs.flatMap ql) rfl (qol xs) ?c1 (q51 xs) ?c3 ?c4 ?c5 ?_)
  case c1 =>
   intro j u K;exact((Upd.refl (fun _=>False) w).alloc _).cell (q j u K) (fun h=>h)
  case c3=>unfold maxLen;omega
  case c4=>omega
  case c5=>simp
  intro W O i l _;have N:qu w O:=((Upd.refl _ w).alloc _).grown l (fun k h T=>by simp[Value.ownBlock] at h;omega);have m:=(qdo i).2;obtain⟨R,V,c5,rfl⟩:=qoy i;have H:=qb m;clear m i l;go_wp2
  first | go_ret2 | go_ret
  refine⟨_,rfl,N,?_⟩;rcases qa H with h | ⟨g',o,e,I,t⟩
  ·exact .inl ⟨_,_,h.1,h.2⟩
  ·exact .inr ⟨g',o,e,I,t⟩
def Live.zero:Live:=⟨⟨0,0,Vector.replicate 32 0,0⟩,false,0,false⟩
def q8m:Sem Value:=Instr.alloc 56 true (.tuple #[])
theorem qg0:Instr.alloc 56 true (.tuple #[])=q8m:=rfl
theorem qp9(w:World):q8m.run Tryz.prog w = .ok (.pointer (some ⟨w.heap.size,0,none⟩)) (w.alloc (.cells (ql Live.zero).toArray 56)):=by kernel_rfl
theorem qfb{w:World}{b:Nat}{C:Array Value}{T:TypeId}(h:w.heap[b]? = some (.cells C T (0,0))){A:List Value}(i:A.length=C.size)(g:∀v∈A,v.oneCell'=true):stOk w b 0 C.size A.toArray=true :=
 qf3 h (by omega) (by simpa using i) (by rw[Array.all_eq_true_iff_forall_mem];intro v hv;exact g v (by simpa using hv))
theorem qo3(w:World)(x:Live):stOk (w.alloc (.cells (ql Live.zero).toArray 56)) w.heap.size 0 38 (ql x).toArray=true :=
 qfb (C:=(ql Live.zero).toArray) (qi _ _) (by rw[qa5];rfl) (qet x)
theorem qov(w:World)(x:Live):((w.alloc (.cells (ql Live.zero).toArray 56)).setCells w.heap.size 0 (ql x)).heap[w.heap.size]? = some (.cells (ql x).toArray 56 (0,0))∧qu w ((w.alloc (.cells (ql Live.zero).toArray 56)).setCells w.heap.size 0 (ql x)) :=
 qnl w _ _ _ (by rw[qa5];rfl)
end Go.Proofs.YthnohmjbbeahmaaGreatDoor
