/-
  Words of our own on worlds: 'Upd S w w'': the streams are as they were, no block has gone, and each old block outside S holds what it held.
-/
import Derived.WalkKit
import Derived.WalkSpells
import Derived.WalkLawsBesides
import Derived.BigQuiet
import Derived.Lib.Hide
import Derived.Deep.MidRow
import Derived.Laws.Tables
import Derived.Great.BuildSlice
import Derived.Test.YthnohmjbbeahmaaGreatDoorProg
import Derived.Test.YthnohmjbbeahmaaGreatDoorRows
import Derived.IntWalk
import Derived.Outline
import Derived.Deep.CutRange
import Derived.BigRegion
import Derived.Deep.RegionLaw
import Derived.Lib.LazyBuf
import Derived.Orders
set_option linter.unusedVariables false
set_option linter.unusedSimpArgs false
namespace Go.Proofs.YthnohmjbbeahmaaGreatDoor
open Go.RowKit
theorem qb{p:Prop}(h:p):Hid p:=h
theorem qa{p:Prop}(h:Hid p):p:=h
structure Upd(S:Nat→Prop)(w w':World):Prop where
 os:w'.os=w.os
 tape:w'.tape=w.tape
 output:w'.output=w.output
 size:w.heap.size≤w'.heap.size
 block:∀k,k<w.heap.size→¬S k→w'.heap[k]? = w.heap[k]?
abbrev qq(w w':World):Prop:=Upd (fun _=>False) w w'
theorem Upd.refl(S:Nat→Prop)(w:World):Upd S w w:=⟨rfl,rfl,rfl,Nat.le_refl _,fun _ _ _=>rfl⟩
theorem Upd.trans{S:Nat→Prop}{a b c:World}(h:Upd S a b)(k:Upd S b c):Upd S a c :=
 ⟨k.os.trans h.os,k.tape.trans h.tape,k.output.trans h.output,Nat.le_trans h.size k.size,fun i g l=>(k.block i (Nat.lt_of_lt_of_le g h.size) l).trans (h.block i g l)⟩
theorem Upd.then{S T:Nat→Prop}{a b c:World}(h:Upd S a b)(k:Upd T b c)(m:∀i,i<a.heap.size→T i→S i):Upd S a c :=
 ⟨k.os.trans h.os,k.tape.trans h.tape,k.output.trans h.output,Nat.le_trans h.size k.size,fun i g l=>(k.block i (Nat.lt_of_lt_of_le g h.size) (fun t=>l (m i g t))).trans (h.block i g l)⟩
theorem Upd.mono{S T:Nat→Prop}{a b:World}(h:Upd S a b)(g:∀i,i<a.heap.size→S i→T i):Upd T a b :=
 (Upd.refl T a).then h g
theorem Upd.drew{S:Nat→Prop}{a w:World}(h:Upd S a w):Upd S a w.drew:=⟨h.os,h.tape,h.output,h.size,h.block⟩
theorem Upd.drewN{S:Nat→Prop}{a w:World}(h:Upd S a w)(n:Nat):Upd S a (w.drewN n):=⟨h.os,h.tape,h.output,h.size,h.block⟩
theorem Upd.alloc{S:Nat→Prop}{a w:World}(h:Upd S a w)(o:Obj):Upd S a (w.alloc o) :=
 ⟨h.os,h.tape,h.output,Nat.le_trans h.size (by simp),fun i g l=>(Below.heap_alloc w o i (Nat.lt_of_lt_of_le g h.size)).trans (h.block i g l)⟩
theorem Upd.setCell{S:Nat→Prop}{a w:World}(h:Upd S a w){p:Addr}(m:p.block<a.heap.size→S p.block)(u:Value):Upd S a (w.setCell p u) :=
 ⟨h.os,h.tape,h.output,by simpa [World.setCell] using h.size,fun i g l=>(Below.heap_setCell w p u i (by rintro rfl;exact l (m g))).trans (h.block i g l)⟩
theorem Upd.set1{a w:World}{b:Nat}(h:Upd (· = b) a w)(o:Nat)(u:Value):Upd (· = b) a (w.setCell ⟨b,o,none⟩ u):=h.setCell (fun _=>rfl) u
theorem Upd.grown{S:Nat→Prop}{a w w':World}{row:Option Nat}(h:Upd S a w)(g:w.grownBy w' row)(o:∀k,row=some k→k<a.heap.size→S k):Upd S a w' :=
 ⟨g.os.trans h.os,g.tape.trans h.tape,g.output.trans h.output,Nat.le_trans h.size g.size,
  fun i l m=>(g.block i (Nat.lt_of_lt_of_le l h.size) (fun e=>m (o i e.symm l))).trans (h.block i l m)⟩
theorem Upd.below{B:Nat}{a w:World}(h:Upd (fun k=>B≤k) a w)(g:B≤a.heap.size):Below B a w :=
 ⟨h.os,h.tape,h.output,h.size,fun k i=>h.block k (by omega) (by omega)⟩
theorem Upd.below'{S:Nat→Prop}{B:Nat}{a w:World}(h:Upd S a w)(l:B≤a.heap.size)(g:∀k,S k→B≤k):Below B a w :=
 ⟨h.os,h.tape,h.output,h.size,fun k m=>h.block k (by omega) (fun i=>by have:=g k i;omega)⟩
theorem Upd.of_below{B:Nat}{a w:World}(h:Below B a w)(g:a.heap.size≤B):qq a w :=
 ⟨h.os,h.tape,h.output,h.size,fun k i _=>h.block k (by omega)⟩
theorem Upd.old{S:Nat→Prop}{a w:World}(h:Upd S a w){k:Nat}{o:Obj}(g:a.heap[k]? = some o)(i:¬S k):w.heap[k]? = some o :=
 (h.block k (Array.getElem?_eq_some_iff.1 g).1 i).trans g
theorem Upd.cell{S:Nat→Prop}{a w:World}(h:Upd S a w){p:Addr}{v:Value}(g:a.cell? p=some v)(i:¬S p.block):w.cell? p=some v :=
 (World.cell?_of_block (h.block p.block (World.block_lt_of_cell? a p g) i)).trans g
def Q(w w':World):Prop:=∃n,w'=w.drewN n
theorem Q.refl(w:World):Q w w:=⟨0,rfl⟩
theorem Q.drewN(w:World)(n:Nat):Q w (w.drewN n):=⟨n,rfl⟩
theorem Q.drewN'{w w':World}(h:Q w w')(n:Nat):Q w (w'.drewN n):=by
 obtain⟨m,rfl⟩:=h;exact⟨m+n,by rw[World.drewN_drewN]⟩
theorem Q.trans{a b c:World}(h:Q a b)(k:Q b c):Q a c:=by
 obtain⟨m,rfl⟩:=k;exact h.drewN' m
theorem Q.heap{w w':World}(h:Q w w'):w'.heap=w.heap:=by
 obtain⟨m,rfl⟩:=h;rfl
theorem Q.upd{w w':World}(h:Q w w')(S:Nat→Prop):Upd S w w':=by
 obtain⟨m,rfl⟩:=h;exact(Upd.refl S w).drewN m
theorem Q.old{w w':World}(h:Q w w'){k:Nat}{o:Obj}(g:w.heap[k]? = some o):w'.heap[k]? = some o:=by rw[h.heap];exact g
theorem Q.cell{w w':World}(h:Q w w'){p:Addr}{v:Value}(g:w.cell? p=some v):w'.cell? p=some v:=by
 obtain⟨m,rfl⟩:=h;exact g
theorem Q.frozen{w w':World}(h:Q w w'){p:Addr}{v:Bool}(g:w.frozen? p=v):w'.frozen? p=v:=by
 obtain⟨m,rfl⟩:=h;exact g
def qch(v:Value)(w:World)(e:Ending)(w':World):Prop:=e = .returned v∧Q w w'
def qbf(v:Value)(w:World)(e:Ending)(w':World):Prop:=e = .returned v∧qq w w'
theorem qad{w:World}{b:Nat}{o:Obj}(h:w.heap[b]? = some o):b<w.heap.size:=(Array.getElem?_eq_some_iff.1 h).1
theorem qh{w:World}{b:Nat}{cs:Array Value}{T:TypeId}{g:Nat × Nat}(h:w.heap[b]? = some (.cells cs T g))(i:Nat):w.cell? ⟨b,i,none⟩=cs[i]? := by
 simp[World.cell?,h]
theorem qw{w:World}{b:Nat}{cs:Array Value}{T:TypeId}(h:w.heap[b]? = some (.cells cs T (0,0)))(i:Nat):w.frozen? ⟨b,i,none⟩=false:=by
 simp[World.frozen?,h]
theorem qah{w:World}{b:Nat}{cs:Array Value}{T:TypeId}{g:Nat × Nat}(h:w.heap[b]? = some (.cells cs T g))(i:Nat)(v:Value) :
  (w.setCell ⟨b,i,none⟩ v).heap[b]? = some (.cells (cs.setIfInBounds i v) T g):=by
 simp[World.setCell,Array.getElem?_modify,h]
theorem qi(w:World)(o:Obj):(w.alloc o).heap[w.heap.size]? = some o:=heap_alloc_new w o
theorem zr{w:World}{b:Nat}{o:Obj}(h:w.heap[b]? = some o)(x:Obj):(w.alloc x).heap[b]? = some o :=
 (Below.heap_alloc w x b (qad h)).trans h
def bt(s:ByteArray)(n:Nat):Int:=(s.data.toList.getD n 0).toNat
theorem qzf(s:ByteArray)(n:Nat):0≤bt s n∧bt s n≤255:=by
 unfold bt;have:=(s.data.toList.getD n 0).toNat_lt;omega
theorem zjr(s:ByteArray)(n:Nat)(h:n<s.size):(s[n].toNat:Int)=bt s n:=by
 have g:n<s.data.size:=h;unfold bt;rw[List.getD_eq_getElem?_getD,Array.getElem?_toList,Array.getElem?_eq_getElem g];rfl
theorem qou{P:Program}(t:TypeId)(s:ByteArray)(k:IntKind)(i:Int)(n:Nat)(h:P.underlying t=some .string)(g:i=n)(l:n<s.size)(w:World) :
  (Instr.index t (.string s) (.int k i)).run P w = .ok (.int .u8 (bt s n)) w:=by
 subst g
 rw[run_index_string w t s k _ h,dif_pos (by omega),←zjr s n l]
 rfl
theorem qxs(n:Nat)(h:n<9223372036854775808):IntKind.i64.wrap (n:Int)=n:=by
 simp[IntKind.wrap,IntKind.bits,IntKind.signed];split<;>omega
theorem q0y(n:Nat)(h:n<18446744073709551616):(BitVec.ofInt 64 (n:Int)).toNat=n:=by
 simp[BitVec.ofInt];omega
theorem qe4{P:Program}(w:World)(l g e:TypeId)(v:P.underlying l=some (.slice e))(q:P.underlying e=some (.int .u8))(hd:P.underlying g=some .string)
  (b cap:Nat) (xs:List Int) (T:TypeId) (m:Nat × Nat) (n:Nat) (t:xs.length=n) (o:w.heap[b]? = some (.cells (xs.map (Value.int .u8)).toArray T m)) :
  (convert l g (.slice (some ⟨b,0,none⟩) n cap)).run P w = .ok (.string (strOfNums xs)) w:=by
 refine run_convert_bytes_arg w l e v q b 0 n cap xs t (fun i x=> ?_) g hd
 rw[Nat.zero_add,qh o i,List.getElem?_toArray,List.getElem?_map,List.getElem?_eq_getElem (by omega)]
 simp[List.getD,List.getElem?_eq_getElem (show i<xs.length by omega)]
def zu(w:World)(b o n:Nat):Option (Array Value) :=
 match w.heap[b]? with
 | some (.cells C _ _)=>if o+n≤C.size then some (C.extract o (o+n)) else none
 | _=>none
def qdz(P:Program)(g:TypeId)(w:World)(b o:Nat):Result Value:=(loadVar g ⟨b,o,none⟩).run P w
theorem qfq{w:World}{b o n:Nat}{A:Array Value}(h:zu w b o n=some A):A.size=n∧∀j,j<n→w.cell? ⟨b,o+j,none⟩=A[j]? := by
 unfold zu at h;cases g:w.heap[b]? with
 | none=>rw[g] at h;cases h
 | some l =>
  rw[g] at h;cases l with
  | cells C T m =>
   simp only at h;split at h
   ·rename_i i;injection h with h;subst h;refine⟨by simp;omega,fun j q=> ?_⟩;rw[qh g,Array.getElem?_extract,if_pos (by omega)]
   ·cases h
  | _=>cases h
theorem qyj{w:World}{b o n:Nat}{A:Array Value}(h:zu w b o n=some A):w.rangeAt b o A.toList:=by
 obtain⟨l,g⟩:=qfq h;intro j v hv;rw[Array.getElem?_toList] at hv;have i:j<n:=by
  have:=(Array.getElem?_eq_some_iff.1 hv).1;omega
 rw[g j i,hv]
theorem qbv{w:World}{b:Nat}{C:Array Value}{T:TypeId}{g:Nat × Nat}(h:w.heap[b]? = some (.cells C T g))(o n:Nat)(i:o+n≤C.size):zu w b o n=some (C.extract o (o+n)):=by
 unfold zu;rw[h];simp only;rw[if_pos i]
theorem qag{w:World}{b:Nat}{C:Array Value}{T:TypeId}{g:Nat × Nat}(h:w.heap[b]? = some (.cells C T g))(n:Nat)(i:C.size=n):zu w b 0 n=some C:=by
 rw[qbv h 0 n (by omega)];simp[←i]
theorem q9f{w w':World}(b:Nat)(h:w'.heap[b]? = w.heap[b]?)(o n:Nat):zu w' b o n=zu w b o n:=by unfold zu;rw[h]
theorem qa6{S:Nat→Prop}{w w':World}{b o n:Nat}{A:Array Value}(h:zu w b o n=some A)(u:Upd S w w')(i:¬S b):zu w' b o n=some A:=by
 rw[q9f b (u.block b ?_ i)]
 ·exact h
 ·by_cases g:b<w.heap.size
  ·exact g
  ·have e:w.heap[b]? = none:=by simp;omega
   unfold zu at h;rw[e] at h;cases h
theorem z6{P:Program}(g n:Nat)(d:TypeDesc)(l:P.underlying g=some d)(hd:d.isRow=true)(i:(P.info? g).map (·.size)=some n)(b o:Nat)(w:World) :
  (Instr.loadAt g (.pointer (some ⟨b,o,none⟩))).run P w=match zu w b o n with | some A=> .ok (.agg A) w | none=>qdz P g w b o:=by
 cases h:zu w b o n with
 | none =>
  simp only[Instr.loadAt,Instr.sureAddr,Sem.run_bind,Sem.run_pure,Result.andThen_ok,qdz]
 | some A =>
  simp only;rw[run_loadAt_mid w b o g A.toList d (qyj h) l hd (by rw[i,Array.length_toList,(qfq h).1])]
def stOk(w:World)(b o n:Nat)(A:Array Value):Bool :=
 (match w.heap[b]? with | some (.cells C _ g)=>decide (o+n≤C.size)&&decide (g=(0,0)) | _=>false)&&decide (A.size=n)&&A.all (·.oneCell')
def qfn(P:Program)(g:TypeId)(w:World)(b o:Nat)(A:Array Value):Result Unit:=(Instr.storeAt g (.pointer (some ⟨b,o,none⟩)) (.agg A)).run P w
theorem qf3{w:World}{b:Nat}{C:Array Value}{T:TypeId}(h:w.heap[b]? = some (.cells C T (0,0))){o n:Nat}(l:o+n≤C.size){A:Array Value}(i:A.size=n)(g:A.all (·.oneCell')=true):stOk w b o n A=true:=by
 unfold stOk;rw[h];simp only[g,Bool.and_true];simp[l,i]
theorem q4r{w:World}{b o n:Nat}{A:Array Value}(h:stOk w b o n A=true):w.there b o A.size∧A.size=n∧A.all (·.oneCell')=true:=by
 unfold stOk at h;cases g:w.heap[b]? with
 | none=>rw[g] at h;simp at h
 | some m =>
  rw[g] at h;cases m with
  | cells C T q =>
   simp only[Bool.and_eq_true,decide_eq_true_eq] at h;obtain⟨⟨⟨t,rfl⟩,i⟩,l⟩:=h;refine⟨fun j v=>⟨?_,qw g _⟩,i,l⟩;rw[qh g,Array.getElem?_eq_getElem (by omega)];rfl
  | _=>simp at h
theorem qat{P:Program}(g n:Nat)(q:(P.info? g).map (·.size)=some n)(b o:Nat)(A:Array Value)(w:World) :
  (Instr.storeAt g (.pointer (some ⟨b,o,none⟩)) (.agg A)).run P w=if stOk w b o n A=true then .ok () (w.setCells b o A.toList) else qfn P g w b o A:=by
 by_cases h:stOk w b o n A=true
 ·rw[if_pos h];obtain⟨i,l,m⟩:=q4r h;exact run_storeAt_mid w b o g A i (by rw[q,l]) m
 ·rw[if_neg h];rfl
def qkx(C:Array Value)(o:Nat):List Value→Array Value
 | []=>C
 | v::r=>qkx (C.setIfInBounds o v) (o+1) r
theorem qa4{w:World}{b:Nat}{C:Array Value}{T:TypeId}{i:Nat × Nat}(h:w.heap[b]? = some (.cells C T i))(o:Nat)(g:List Value):(w.setCells b o g).heap[b]? = some (.cells (qkx C o g) T i):=by
 induction g generalizing w C o with
 | nil=>exact h
 | cons v r l=>exact l (qah h o v) (o+1)
theorem qnk(C:Array Value)(o:Nat)(g:List Value):(qkx C o g).size=C.size:=by
 induction g generalizing C o with
 | nil=>rfl
 | cons v r i=>rw[qkx,i,Array.size_setIfInBounds]
theorem qhm(C:Array Value)(o:Nat)(g:List Value)(i:Nat)(h:o+g.length≤C.size):(qkx C o g)[i]? = if o≤i∧i<o+g.length then g[i-o]? else C[i]? := by
 induction g generalizing C o with
 | nil=>simp[qkx];intro l m;omega
 | cons v r q =>
  rw[qkx,q _ _ (by simp only[List.length_cons] at h;rw[Array.size_setIfInBounds];omega)];simp only[List.length_cons] at h ⊢;by_cases l:o+1≤i∧i<o+1+r.length
  ·rw[if_pos l,if_pos (by omega)];obtain⟨k,rfl⟩:∃k,i=o+1+k:=⟨i-(o+1),by omega⟩;rw[show o+1+k-(o+1)=k by omega,show o+1+k-o=k+1 by omega,List.getElem?_cons_succ]
  ·rw[if_neg l,Array.getElem?_setIfInBounds];by_cases m:o=i
   ·subst m;rw[if_pos rfl,if_pos (by omega),if_pos (by omega)];simp
   ·rw[if_neg m,if_neg (by omega)]
theorem Upd.setCells{w w':World}{b:Nat}(h:Upd (· = b) w w')(o:Nat)(g:List Value):Upd (· = b) w (w'.setCells b o g):=by
 induction g generalizing w' o with
 | nil=>exact h
 | cons v r i=>exact i (h.set1 o v) (o+1)
theorem zb(w:World)(b o n:Nat):zu w.drew b o n=zu w b o n:=rfl
section
variable {P:Program}{ops:Array Oper}{rest:List Oper}{o:Oper}{a:Act}{w w':World}{Q:Exit→Act→World→Prop}
theorem zf{v:Value}(i:o.guard=none)(h:(execOp a.eval o).run P w = .ok (.value v) w')(k:wpList P ops Q rest (a.put o.dst v) w'):wpList P ops Q (o::rest) a w :=
 wpList_plain i fun K g=>by
  unfold Oper.wp;rw[h];exact g _ _ k
theorem qd6{f:FuncId}{args:Array Value}(m:o.guard=none)(h:(execOp a.eval o).run P w = .ok (.enter f args) w')
  (k:Calls P f args w' fun e g=>∃v,e = .returned v∧wpList P ops Q rest (a.put o.dst v) g):wpList P ops Q (o::rest) a w :=
 wpList_plain m fun K i=>by
  unfold Oper.wp;rw[h];simp only[Oper.upon];refine k.mono fun e g l=> ?_
  obtain⟨v,rfl,hv⟩:=l;exact i _ _ hv
end
theorem Upd.setRow{S:Nat→Prop}{a w:World}(h:Upd S a w){g:Nat}(q:g<a.heap.size→S g)(cs:Array Value):Upd S a (w.setRow g cs) :=
 ⟨h.os,h.tape,h.output,by simpa using h.size,fun i l m=>by
  rw[setRow_other _ _ _ _ (show i≠g from fun e=>m (e▸q (e▸l)))];exact h.block i l m⟩
theorem qz1(A P Z R:List Value)(h:Z.length=A.length):(A.zipIdx).foldl (fun(cs:Array Value) (c,j)=>cs.setIfInBounds (P.length+j) c) (P++(Z++R)).toArray=(P++(A++R)).toArray:=by
 have key:∀(A:List Value) (k:Nat) (Q Z:List Value),Z.length=A.length→Q.length=P.length+k→(A.zipIdx k).foldl (fun(cs:Array Value) (c,j)=>cs.setIfInBounds (P.length+j) c) (Q++(Z++R)).toArray=(Q++(A++R)).toArray:=by
  intro A
  induction A with
  | nil=>intro k Q Z g _;rw[List.length_eq_zero_iff.1 g];rfl
  | cons a A l =>
   intro k Q Z g i;cases Z with
   | nil=>simp at g
   | cons z Z =>
    rw[List.zipIdx_cons,List.foldl_cons];have e:(Q++(z::Z++R)).toArray.setIfInBounds (P.length+k) a=((Q++[a])++(Z++R)).toArray:=by
     rw[←i];simp
    show List.foldl _ ((Q++(z::Z++R)).toArray.setIfInBounds (P.length+k) a) _=_;rw[e,l (k+1) (Q++[a]) Z (by simpa using g) (by simp[i];omega)];simp
 exact key A 0 P Z h rfl
theorem qcd{P:Program}{t:TypeId}{it:TypeInfo}{z:Value}{g:Array Field}{places:List (Nat × Nat)}(m:P.info? t=some it)(q:P.underlying t=some (.struct g))(v:it.zero=some z)
  (o:g.toList.mapM (fun f=>(P.info? f.type).map fun i=>(f.offset,i.size))=some places) (l:List (Nat × Value)):P.built t l=Instr.fill (places.toArray[·]?) z.cells l:=by
 unfold Program.built
 rw[m,q]
 simp only[v,o]
theorem qed{P:Program}{t:TypeId}{l:List Value}(h:((P.info? t).map fun i=>i.zero.map fun z=>z.cells.toList)=some (some l)):∃i z,P.info? t=some i∧i.zero=some z∧z.cells=l.toArray:=by
 cases m:P.info? t with
 | none=>rw[m] at h;simp at h
 | some i =>
  rw[m,Option.map_some,Option.some.injEq] at h;cases g:i.zero with
  | none=>rw[g] at h;simp at h
  | some z =>
   rw[g,Option.map_some,Option.some.injEq] at h;exact⟨i,z,rfl,g,by rw[←h]⟩
theorem qfa{g:Nat→Option (Nat × Nat)}{i off:Nat}{A P Z R:List Value}{cs:Array Value}(t:g i=some (off,A.length))(q:P.length=off)(m:Z.length=A.length)(o:cs=(P++(Z++R)).toArray)(rest:List (Nat × Value)) :
  Instr.fill g cs ((i,.agg A.toArray)::rest)=Instr.fill g (P++(A++R)).toArray rest:=by
 subst o q
 rw[Instr.fill,t]
 have v:¬(A.toArray.size≠A.length || P.length+A.toArray.size>(P++(Z++R)).toArray.size)=true:=by
  simp[m]
 have l:((Value.agg A.toArray).cells.size≠A.length || P.length+(Value.agg A.toArray).cells.size>(P++(Z++R)).toArray.size)=false:=by
  simpa [Value.cells] using v
 simp only[l,Bool.false_eq_true,if_false]
 congr 1
 have:=qz1 A P Z R m
 simpa [Value.cells] using this
structure SetupV where
 ch:Int
 cap:Int
 ours:Int
 seed:List Int
 key:ByteArray
 peer:ByteArray
def SetupV.cells(s:SetupV):List Value:= .int .u32 s.ch :: .int .u64 s.cap :: .int .u64 s.ours::(s.seed.map (Value.int .u8)++[.string s.key,.string s.peer])
structure SetupV.Ok(s:SetupV):Prop where
 ch:0≤s.ch∧s.ch<4294967296
 cap:0≤s.cap∧s.cap<18446744073709551616
 ours:0≤s.ours∧s.ours<18446744073709551616
 seed:s.seed.length=32
theorem SetupV.len(s:SetupV)(h:s.seed.length=32):s.cells.length=37:=by simp[SetupV.cells,h]
structure KeptV where
 full:Bool
 number:Int
 told:List Int
def KeptV.cells(k:KeptV):List Value:= .bool k.full :: .int .i64 k.number::k.told.map (Value.int .u8)
def KeptV.zero:KeptV:=⟨false,0,List.replicate 32 0⟩
structure CountsV where
 signed:Int
 heard:Int
 awaits:Bool
 nextOwn:Int
 nextTheirs:Int
 shutSaid:Bool
 shutHeard:Bool
 revoked:Bool
def CountsV.cells(k:CountsV):List Value:=[.int .i64 k.signed,.int .i64 k.heard,.bool k.awaits,.int .u64 k.nextOwn,.int .u64 k.nextTheirs,.bool k.shutSaid,.bool k.shutHeard,.bool k.revoked]
def CountsV.zero:CountsV:=⟨0,0,false,0,0,false,false,false⟩
structure ChanV where
 setup:SetupV
 k:CountsV
 loc:Int
 rem:Int
 live:Value
 shelf:List KeptV
 news:Value
 last:Value
def ChanV.told(c:ChanV):List Value:=c.shelf.flatMap KeptV.cells
def ChanV.rest(c:ChanV):List Value:= .int .u64 c.loc :: .int .u64 c.rem::c.live::(c.told++[c.news,c.last])
def ChanV.cells(c:ChanV):List Value:=c.setup.cells++(c.k.cells++c.rest)
def qcg:Value:= .slice none 0 0
def ChanV.new(s:SetupV):ChanV:=⟨s,.zero,s.ours,s.cap-s.ours,qcg,List.replicate 17 .zero,qcg,qcg⟩
structure ChR(w:World)(g:Nat)(c:ChanV):Prop where
 at_:w.heap[g]? = some (.cells c.cells.toArray 106 (0,0))
 seed:c.setup.seed.length=32
theorem ChR.lt{w:World}{g:Nat}{c:ChanV}(h:ChR w g c):g<w.heap.size:=qad h.at_
theorem ChR.upd{S:Nat→Prop}{w w':World}{g:Nat}{c:ChanV}(h:ChR w g c)(u:Upd S w w')(i:¬S g):ChR w' g c:=⟨u.old h.at_ i,h.seed⟩
theorem ChR.new{w w':World}{g:Nat}{c:ChanV}(h:ChR w g c)(u:qq w w'):ChR w' g c:=h.upd u (fun h=>h)
theorem ChR.free{w:World}{g:Nat}{c:ChanV}(h:ChR w g c)(i:Nat):w.frozen? ⟨g,i,none⟩=false:=qw h.at_ i
theorem ChR.cell{w:World}{g:Nat}{c:ChanV}(h:ChR w g c)(i:Nat):w.cell? ⟨g,i,none⟩=c.cells[i]? := by
 rw[qh h.at_,List.getElem?_toArray]
theorem q65(c:ChanV)(h:c.setup.seed.length=32)(i:Nat)(l:i<37):c.cells[i]? = c.setup.cells[i]? := by
 unfold ChanV.cells;rw[List.getElem?_append_left (by rw[c.setup.len h];exact l)]
theorem qpa(c:ChanV)(h:c.setup.seed.length=32)(i:Nat):c.cells[37+i]? = (c.k.cells++c.rest)[i]? := by
 unfold ChanV.cells;rw[List.getElem?_append_right (by rw[c.setup.len h];omega),c.setup.len h,Nat.add_sub_cancel_left]
theorem ChR.low{w:World}{g:Nat}{c:ChanV}(h:ChR w g c)(i:Nat)(l:i<37):w.cell? ⟨g,i,none⟩=c.setup.cells[i]? := (h.cell i).trans (q65 c h.seed i l)
theorem ChR.mid{w:World}{g:Nat}{c:ChanV}(h:ChR w g c)(i:Nat):w.cell? ⟨g,37+i,none⟩=(c.k.cells++c.rest)[i]? := (h.cell _).trans (qpa c h.seed i)
section
variable {w:World}{g:Nat}{c:ChanV}(h:ChR w g c)
include h
theorem ChR.ch:w.cell? ⟨g,0,none⟩=some (.int .u32 c.setup.ch):=h.low 0 (by omega)
theorem ChR.cap:w.cell? ⟨g,1,none⟩=some (.int .u64 c.setup.cap):=h.low 1 (by omega)
theorem ChR.signed:w.cell? ⟨g,37,none⟩=some (.int .i64 c.k.signed):=h.mid 0
theorem ChR.heard:w.cell? ⟨g,38,none⟩=some (.int .i64 c.k.heard):=h.mid 1
theorem ChR.awaits:w.cell? ⟨g,39,none⟩=some (.bool c.k.awaits):=h.mid 2
theorem ChR.nextOwn:w.cell? ⟨g,40,none⟩=some (.int .u64 c.k.nextOwn):=h.mid 3
theorem ChR.nextTheirs:w.cell? ⟨g,41,none⟩=some (.int .u64 c.k.nextTheirs):=h.mid 4
theorem ChR.shutSaid:w.cell? ⟨g,42,none⟩=some (.bool c.k.shutSaid):=h.mid 5
theorem ChR.shutHeard:w.cell? ⟨g,43,none⟩=some (.bool c.k.shutHeard):=h.mid 6
theorem ChR.revoked:w.cell? ⟨g,44,none⟩=some (.bool c.k.revoked):=h.mid 7
theorem ChR.loc:w.cell? ⟨g,45,none⟩=some (.int .u64 c.loc):=h.mid 8
theorem ChR.rem:w.cell? ⟨g,46,none⟩=some (.int .u64 c.rem):=h.mid 9
theorem ChR.live:w.cell? ⟨g,47,none⟩=some c.live:=h.mid 10
end
def qt1:List Value:=qcg::((List.replicate 17 KeptV.zero).flatMap KeptV.cells++[qcg,qcg])
def qyx:List Value:= .int .u32 0 :: .int .u64 0 :: .int .u64 0::((List.replicate 32 0).map (Value.int .u8)++[.string ⟨#[]⟩,.string ⟨#[]⟩])
theorem Tryz.zeroChan:((Tryz.prog.info? 106).map fun i=>i.zero.map fun z=>z.cells.toList)=some (some (qyx++(CountsV.zero.cells++([.int .u64 0,.int .u64 0]++qt1)))):=by kernel_rfl
theorem Tryz.placesChan:∃l,Tryz.prog.underlying 106=some (.struct l)∧l.toList.mapM (fun f=>(Tryz.prog.info? f.type).map fun i=>(f.offset,i.size))=some [(0,37),(37,8),(45,2),(47,1),(48,578),(626,1),(627,1)]:=⟨_,Tryz.underlying106,by kernel_rfl⟩
theorem q2o(S:List Value)(a b:Value)(l:S.length=37):Tryz.prog.built 106 [(0,.agg S.toArray),(2,.agg [a,b].toArray)]=some (S++(CountsV.zero.cells++([a,b]++qt1))).toArray:=by
 obtain⟨i,z,o,v,m⟩:=qed Tryz.zeroChan;obtain⟨x,t,q⟩:=Tryz.placesChan;rw[qcd o t v q];rw[qfa (P:=[]) (A:=S) (Z:=qyx) (R:=CountsV.zero.cells++([.int .u64 0,.int .u64 0]++qt1)) (off:=0) (by rw[l];rfl) rfl (by rw[l];rfl) m];rw[qfa (P:=S++CountsV.zero.cells) (A:=[a,b]) (Z:=[.int .u64 0,.int .u64 0]) (R:=qt1) (off:=45) (by rfl) (by rw[List.length_append,l];rfl) rfl (by simp)];rw[Instr.fill];simp
def zaj(p:Array (Nat × Value)):Sem Value:=Instr.build 106 p
theorem qwr(p:Array (Nat × Value)):Instr.build 106 p=zaj p:=rfl
theorem zex(s:SetupV)(i:s.seed.length=32)(a b:Value)(w:World):(zaj #[(0,.agg s.cells.toArray),(2,.agg #[a,b])]).run Tryz.prog w = .ok (.agg (s.cells++(CountsV.zero.cells++([a,b]++qt1))).toArray) w :=
 run_build w _ _ _ (q2o s.cells a b (s.len i))
theorem Tryz.infoSetup:(Tryz.prog.info? 66).map (·.size)=some 37:=by kernel_rfl
def q5z(x:Value):Sem Value:=Instr.loadAt 66 x
theorem qfc(x:Value):Instr.loadAt 66 x=q5z x:=rfl
theorem qlt(b o:Nat)(w:World):(q5z (.pointer (some ⟨b,o,none⟩))).run Tryz.prog w=match zu w b o 37 with | some A=> .ok (.agg A) w | none=>qdz Tryz.prog 66 w b o :=
 z6 66 37 _ Tryz.underlying66 rfl Tryz.infoSetup b o w
def qmy(w:World)(b:Nat)(s:SetupV):Prop:=w.heap[b]? = some (.cells s.cells.toArray 66 (0,0))
theorem qmy.upd{S:Nat→Prop}{w w':World}{g:Nat}{s:SetupV}(h:qmy w g s)(u:Upd S w w')(i:¬S g):qmy w' g s:=u.old h i
theorem qmy.new{w w':World}{g:Nat}{s:SetupV}(h:qmy w g s)(u:qq w w'):qmy w' g s:=h.upd u (fun h=>h)
theorem qmy.lt{w:World}{g:Nat}{s:SetupV}(h:qmy w g s):g<w.heap.size:=qad h
theorem qmy.drew{w:World}{g:Nat}{s:SetupV}(h:qmy w g s):qmy w.drew g s:=h
theorem qmy.row{w:World}{b:Nat}{s:SetupV}(h:qmy w b s)(g:s.seed.length=32):zu w b 0 37=some s.cells.toArray:=by
 rw[qbv h 0 37 (by simp[s.len g])];congr 1;apply Array.ext';rw[Array.toList_extract];show List.take 37 (List.drop 0 s.cells)=s.cells;rw[List.drop_zero,List.take_of_length_le (by rw[s.len g];exact Nat.le_refl _)]
theorem qmy.cell{w:World}{b:Nat}{s:SetupV}(h:qmy w b s)(i:Nat):w.cell? ⟨b,i,none⟩=s.cells[i]? := by rw[qh h,List.getElem?_toArray]
theorem SetupV.c35(s:SetupV)(h:s.seed.length=32):s.cells[35]? = some (.string s.key):=by
 unfold SetupV.cells;rw[List.getElem?_cons_succ,List.getElem?_cons_succ,List.getElem?_cons_succ,List.getElem?_append_right (by simp[h])];simp[h]
theorem SetupV.c36(s:SetupV)(h:s.seed.length=32):s.cells[36]? = some (.string s.peer):=by
 unfold SetupV.cells;rw[List.getElem?_cons_succ,List.getElem?_cons_succ,List.getElem?_cons_succ,List.getElem?_append_right (by simp[h])];simp[h]
attribute [local go_sem ↓ high] qfc qwr
attribute [local go_sem] qlt
def SetupV.may(s:SetupV):Prop:=1≤s.cap∧s.cap≤1125899906842624∧s.ours≤s.cap∧s.key.size≤64∧s.peer.size≤64
theorem q8w(s:SetupV):s.cells++(CountsV.zero.cells++([.int .u64 s.ours,.int .u64 (s.cap-s.ours)]++qt1))=(ChanV.new s).cells:=by
 unfold ChanV.new ChanV.cells ChanV.rest ChanV.told qt1;simp
set_option maxRecDepth 100000 in
set_option maxHeartbeats 1000000 in
theorem q0v(s:SetupV)(m:s.Ok)(w:World):Calls Tryz.prog 47 #[.agg s.cells.toArray] w fun e w' =>
  (s.may∧∃g,e = .returned (.pointer (some ⟨g,0,none⟩))∧w.heap.size≤g∧ChR w' g (.new s)∧qq w w')∨(¬s.may∧e = .returned (.pointer none)∧qq w w'):=by
 go_enter Tryz.func47,Tryz.ntmps47
 go_upto_region 1 with fail
 have l:qmy (w.alloc (.cells s.cells.toArray 66)) w.heap.size s:=qi _ _
 have i:qq w (w.alloc (.cells s.cells.toArray 66)):=(Upd.refl _ _).alloc _
 generalize w.alloc (.cells s.cells.toArray 66)=w1 at l i ⊢
 have z:=l.lt
 have v:=l.row m.seed
 have E:w1.cell? ⟨w.heap.size,1,none⟩=some (.int .u64 s.cap):=l.cell 1
 have F:w1.cell? ⟨w.heap.size,2,none⟩=some (.int .u64 s.ours):=l.cell 2
 have x:w1.cell? ⟨w.heap.size,35,none⟩=some (.string s.key):=(l.cell 35).trans (s.c35 m.seed)
 have y:w1.cell? ⟨w.heap.size,36,none⟩=some (.string s.peer):=(l.cell 36).trans (s.c36 m.seed)
 obtain⟨a0,a1⟩:=m.cap
 obtain⟨b0,b1⟩:=m.ours
 have t:=zex s m.seed (.int .u64 s.ours) (.int .u64 (s.cap-s.ours))
 rw[q8w] at t
 by_cases H:s.cap<1
 ·go_wp2;go_ret;exact .inr ⟨(fun h=>by have:=h.1;omega),rfl,i⟩
 by_cases I:1125899906842624<s.cap
 ·go_wp2;go_ret;exact .inr ⟨(fun h=>by have:=h.2.1;omega),rfl,i⟩
 by_cases J:s.cap<s.ours
 ·go_wp2;go_ret;exact .inr ⟨(fun h=>by have:=h.2.2.1;omega),rfl,i⟩
 by_cases K:64<s.key.size
 ·have o:64<(s.key.size:Int):=by omega
  go_wp2;go_ret;exact .inr ⟨(fun h=>by have:=h.2.2.2.1;omega),rfl,i⟩
 by_cases L:64<s.peer.size
 ·have o:¬64<(s.key.size:Int):=by omega
  have q:64<(s.peer.size:Int):=by omega
  go_wp2;go_ret;exact .inr ⟨(fun h=>by have:=h.2.2.2.2;omega),rfl,i⟩
 ·have o:¬64<(s.key.size:Int):=by omega
  have q:¬64<(s.peer.size:Int):=by omega
  have M:IntKind.u64.wrap (s.cap-s.ours)=s.cap-s.ours:=by rw[IntKind.wrap_u64];omega
  go_wp2;go_ret;have C:s.may:=⟨by omega,by omega,by omega,by omega,by omega⟩;have D:qq w (w1.alloc (.cells (ChanV.new s).cells.toArray 106)):=i.alloc _;exact .inl ⟨C,w1.heap.size,rfl,i.size,⟨qi _ _,m.seed⟩,D⟩
end Go.Proofs.YthnohmjbbeahmaaGreatDoor
namespace Go.Proofs.YthnohmjbbeahmaaGreatDoor
open Go.RowKit
structure Htlc where
 id:Int
 amount:Int
 hash:Vector Int 32
 expiry:Int
structure Live where
 h:Htlc
 own:Bool
 state:Int
 paid:Bool
structure Item where
 offered:Bool
 h:Htlc
def qz(h:Htlc):List Value:= .int .u64 h.id :: .int .u64 h.amount::(h.hash.toList.map (Value.int .u8)++[.int .i64 h.expiry])
def qk(x:Live):List Value:=qz x.h++[.bool x.own,.int .i64 x.state,.bool x.paid]
def zm(x:Item):List Value:= .bool x.offered::qz x.h
structure HtlcOk(h:Htlc):Prop where
 id:0≤h.id∧h.id≤18446744073709551615
 amount:0≤h.amount∧h.amount≤18446744073709551615
 hash:∀n∈h.hash.toList,0≤n∧n≤255
 expiry : -9223372036854775808≤h.expiry∧h.expiry≤9223372036854775807
structure LiveOk(x:Live):Prop where
 h:HtlcOk x.h
 state : -9223372036854775808≤x.state∧x.state≤9223372036854775807
theorem qbj(h:Htlc):(qz h).length=35:=by simp[qz]
theorem qa2(x:Live):(qk x).length=38:=by simp[qk,qbj]
theorem qct(x:Item):(zm x).length=36:=by simp[zm,qbj]
theorem zci(x:Live):(qk x)[0]? = some (.int .u64 x.h.id):=rfl
theorem qxw(x:Live):(qk x)[1]? = some (.int .u64 x.h.amount):=rfl
theorem qim(x:Live):(qk x)[35]? = some (.bool x.own):=by
 unfold qk;rw[List.getElem?_append_right (by rw[qbj];omega),qbj];rfl
theorem qgm(x:Live):(qk x)[36]? = some (.int .i64 x.state):=by
 unfold qk;rw[List.getElem?_append_right (by rw[qbj];omega),qbj];rfl
theorem qof(x:Live):(qk x)[37]? = some (.bool x.paid):=by
 unfold qk;rw[List.getElem?_append_right (by rw[qbj];omega),qbj];rfl
theorem qlp(h:Htlc):∀v∈qz h,v.oneCell'=true:=by
 intro v hv;simp only[qz,List.mem_cons,List.mem_append,List.mem_map,List.not_mem_nil,or_false] at hv;rcases hv with rfl | rfl | ⟨n,_,rfl⟩ | rfl<;>rfl
theorem qsr(x:Item):∀v∈zm x,v.oneCell'=true:=by
 intro v hv;rcases List.mem_cons.1 hv with rfl | hv
 ·rfl
 ·exact qlp _ v hv
theorem Tryz.infoLive:(Tryz.prog.info? 56).map (·.size)=some 38:=by kernel_rfl
theorem Tryz.infoHtlc:(Tryz.prog.info? 54).map (·.size)=some 35:=by kernel_rfl
def zcb(x:Value):Sem Value:=Instr.loadAt 56 x
theorem qcf(x:Value):Instr.loadAt 56 x=zcb x:=rfl
theorem qgl(b o:Nat)(w:World):(zcb (.pointer (some ⟨b,o,none⟩))).run Tryz.prog w=match zu w b o 38 with | some A=> .ok (.agg A) w | none=>qdz Tryz.prog 56 w b o :=
 z6 56 38 _ Tryz.underlying56 rfl Tryz.infoLive b o w
def zb9(x:Value):Sem Value:=Instr.loadAt 54 x
theorem qxv(x:Value):Instr.loadAt 54 x=zb9 x:=rfl
theorem zf0(b o:Nat)(w:World):(zb9 (.pointer (some ⟨b,o,none⟩))).run Tryz.prog w=match zu w b o 35 with | some A=> .ok (.agg A) w | none=>qdz Tryz.prog 54 w b o :=
 z6 54 35 _ Tryz.underlying54 rfl Tryz.infoHtlc b o w
def zd5(x v:Value):Sem Unit:=Instr.storeAt 56 x v
theorem qeb(x v:Value):Instr.storeAt 56 x v=zd5 x v:=rfl
theorem qkr(b o:Nat)(A:Array Value)(w:World):(zd5 (.pointer (some ⟨b,o,none⟩)) (.agg A)).run Tryz.prog w=if stOk w b o 38 A=true then .ok () (w.setCells b o A.toList) else qfn Tryz.prog 56 w b o A :=
 qat 56 38 Tryz.infoLive b o A w
def qg7(w:World)(g off:Nat)(xs:List Live):Prop :=
 ∃C T l,w.heap[g]? = some (.cells C T l)∧off+xs.length*38≤C.size∧∀i x,xs[i]? = some x→∀j,j<38→C[off+i*38+j]? = (qk x)[j]?
theorem qg7.row{w:World}{g off:Nat}{xs:List Live}(h:qg7 w g off xs){i:Nat}{x:Live}(o:xs[i]? = some x):zu w g (off+i*38) 38=some (qk x).toArray:=by
 obtain⟨C,T,y,q,z,t⟩:=h;have m:i<xs.length:=(List.getElem?_eq_some_iff.1 o).1;have l:off+i*38+38≤C.size:=by have:=Nat.mul_le_mul_right 38 (show i+1≤xs.length from m);omega
 rw[qbv q _ _ l];congr 1;apply Array.ext';apply List.ext_getElem?;intro j;rw[Array.getElem?_toList,Array.getElem?_extract];by_cases v:j<38
 ·rw[if_pos (by omega),t i x o j v]
 ·rw[if_neg (by omega),List.getElem?_eq_none (by rw[qa2];omega)]
theorem qg7.upd{S:Nat→Prop}{w w':World}{b off:Nat}{xs:List Live}(h:qg7 w b off xs)(u:Upd S w w')(l:¬S b):qg7 w' b off xs:=by
 obtain⟨C,T,g,i,r⟩:=h;exact⟨C,T,g,u.old i l,r⟩
theorem qg7.lt{w:World}{g off:Nat}{xs:List Live}(h:qg7 w g off xs):g<w.heap.size:=by
 obtain⟨C,T,l,i,r⟩:=h;exact qad i
def qe6(w:World)(v:Value)(xs:List Live):Prop:=(∃a c,v = .slice a 0 c∧xs=[])∨∃g off cap,v = .slice (some ⟨g,off,none⟩) xs.length cap∧qg7 w g off xs
theorem qe6.new{w w':World}{v:Value}{xs:List Live}(h:qe6 w v xs)(u:qq w w'):qe6 w' v xs:=by
 rcases h with h | ⟨g,off,cap,e,h⟩
 ·exact .inl h
 ·exact .inr ⟨g,off,cap,e,h.upd u (fun h=>h)⟩
def qk7(base:Nat)(w:World)(v:Value)(xs:List Live):Prop:=(∃a c,v = .slice a 0 c∧xs=[])∨∃g off cap,v = .slice (some ⟨g,off,none⟩) xs.length cap∧base≤g∧qg7 w g off xs
theorem qk7.to{base:Nat}{w:World}{v:Value}{xs:List Live}(h:qk7 base w v xs):qe6 w v xs:=by
 rcases h with h | ⟨g,off,cap,e,_,h⟩
 ·exact .inl h
 ·exact .inr ⟨g,off,cap,e,h⟩
theorem qk7.new{base:Nat}{w w':World}{v:Value}{xs:List Live}(h:qk7 base w v xs)(u:qq w w'):qk7 base w' v xs:=by
 rcases h with h | ⟨g,off,cap,e,i,h⟩
 ·exact .inl h
 ·exact .inr ⟨g,off,cap,e,i,h.upd u (fun h=>h)⟩
theorem qk7.row{base:Nat}{w:World}{v:Value}{xs:List Live}(h:qk7 base w v xs):∃a cap,v = .slice a xs.length cap∧∀(i:Nat) (x:Live),xs[i]? = some x→∃g off,a=some ⟨g,off,none⟩∧base≤g∧qg7 w g off xs:=by
 rcases h with ⟨a,c,e,rfl⟩ | ⟨g,off,cap,e,l,m⟩
 ·exact⟨a,c,e,fun i x o=>by simp at o⟩
 ·exact⟨_,cap,e,fun i x _=>⟨g,off,rfl,l,m⟩⟩
theorem qc4(Z:Array Value)(C:List Value)(h:Z.size=C.length):qkx Z 0 C=C.toArray:=by
 apply Array.ext';apply List.ext_getElem?;intro j;rw[Array.getElem?_toList,qhm _ _ _ _ (by omega)];by_cases i:j<C.length
 ·rw[if_pos (by omega)];simp
 ·have g:Z[j]? = none:=Array.getElem?_eq_none (by omega);rw[if_neg (by omega),g];exact(List.getElem?_eq_none (by simp;omega)).symm
theorem qoe(w:World)(Z:Array Value)(T:TypeId)(C:List Value)(g:Z.size=C.length) :
  ((w.alloc (.cells Z T)).setCells w.heap.size 0 C).heap[w.heap.size]? = some (.cells C.toArray T (0,0))∧qq w ((w.alloc (.cells Z T)).setCells w.heap.size 0 C):=by
 constructor
 ·rw[qa4 (qi w (.cells Z T)) 0 C,qc4 Z C g]
 ·exact(((Upd.refl (· = w.heap.size) w).alloc _).setCells 0 C).mono (fun i l e=>by omega)
theorem qee(x:Live):∀v∈qk x,v.oneCell'=true:=by
 intro v hv;simp only[qk,List.mem_append,List.mem_cons,List.not_mem_nil,or_false] at hv;rcases hv with hv | rfl | rfl | rfl
 ·exact qlp _ v hv
 ·rfl
 ·rfl
 ·rfl
theorem q05{w w':World}{base:Nat}{e:TypeId}{size:Nat}{v:Value}{n:Nat}{xs:List Value}(h:w.ownsRow base e size v n xs)(u:qq w w'):w'.ownsRow base e size v n xs:=by
 refine⟨h.1,?_⟩;rcases h.2 with h | ⟨g,cap,i,l,m,o,r⟩
 ·exact .inl h
 ·exact .inr ⟨g,cap,i,l,m,u.old o (fun h=>h),r⟩
theorem qmp{w:World}{base:Nat}{e:TypeId}{size:Nat}{v:Value}{n:Nat}{xs:List Value}(h:w.ownsRow base e size v n xs):∃a k c,v = .slice a k c:=by
 rcases h.2 with ⟨rfl,_⟩ | ⟨g,cap,i,rfl,_⟩
 ·exact⟨_,_,_,rfl⟩
 ·exact⟨_,_,_,rfl⟩
theorem qoo{S:Nat→Prop}{w w':World}{base:Nat}{e:TypeId}{size:Nat}{v:Value}{n:Nat}{xs:List Value}(h:w.ownsRow base e size v n xs)(u:Upd S w w')(o:∀k,base≤k→¬S k):w'.ownsRow base e size v n xs:=by
 refine⟨h.1,?_⟩;rcases h.2 with h | ⟨g,cap,i,m,l,q,r⟩
 ·exact .inl h
 ·exact .inr ⟨g,cap,i,m,l,u.old q (o g l),r⟩
theorem qmd(X:List Live):(X.flatMap qk).length=X.length*38:=by
 induction X with
 | nil=>rfl
 | cons x X g=>rw[List.flatMap_cons,List.length_append,g,qa2,List.length_cons];omega
theorem qpd:∀(X:List Live) (i j:Nat) (x:Live),X[i]? = some x→j<38→(X.flatMap qk)[i*38+j]? = (qk x)[j]? := by
 intro X
 induction X with
 | nil=>intro i j x h;simp at h
 | cons y X m =>
  intro i j x g l;rw[List.flatMap_cons];cases i with
  | zero =>
   simp only[List.getElem?_cons_zero,Option.some.injEq] at g;subst g;rw[List.getElem?_append_left (by rw[qa2];omega),Nat.zero_mul,Nat.zero_add]
  | succ i =>
   rw[List.getElem?_append_right (by rw[qa2];omega),qa2,show (i+1)*38+j-38=i*38+j by omega];exact m i j x (by simpa using g) l
theorem q7p(X:List Live):∀u∈X.flatMap qk,u.oneCell'=true:=by
 intro u g;obtain⟨x,_,i⟩:=List.mem_flatMap.1 g;exact qee x u i
def qf7(w:World)(g off:Nat)(xs:List Live):Prop :=
 ∃C T,w.heap[g]? = some (.cells C T (0,0))∧off+xs.length*38≤C.size∧∀i x,xs[i]? = some x→∀j,j<38→C[off+i*38+j]? = (qk x)[j]?
theorem qf7.toL{w:World}{g off:Nat}{xs:List Live}(h:qf7 w g off xs):qg7 w g off xs:=by
 obtain⟨C,T,i,r⟩:=h;exact⟨C,T,_,i,r⟩
theorem qf7.row{w:World}{g off:Nat}{xs:List Live}(h:qf7 w g off xs){i:Nat}{x:Live}(l:xs[i]? = some x):zu w g (off+i*38) 38=some (qk x).toArray:=h.toL.row l
theorem qf7.upd{S:Nat→Prop}{w w':World}{b off:Nat}{xs:List Live}(h:qf7 w b off xs)(u:Upd S w w')(i:¬S b):qf7 w' b off xs:=by
 obtain⟨C,T,g,r⟩:=h;exact⟨C,T,u.old g i,r⟩
theorem qg7.cells{w:World}{g off:Nat}{X:List Live}(h:qg7 w g off X):∀j u,(X.flatMap qk)[j]? = some u→w.cell? ((⟨g,off,none⟩:Addr).add j)=some u:=by
 intro j u o;obtain⟨C,T,z,t,E,v⟩:=h;have D:j<X.length*38:=by
  have:=(List.getElem?_eq_some_iff.1 o).1;rwa [qmd] at this
 have i:(⟨g,off,none⟩:Addr).add j=⟨g,off+j,none⟩:=by unfold Addr.add;split<;>simp_all
 rw[i,qh t];have y:j / 38<X.length:=Nat.div_lt_of_lt_mul (by omega);obtain⟨x,q⟩:∃x,X[j / 38]? = some x:=⟨_,List.getElem?_eq_getElem y⟩;have e:=Nat.div_add_mod j 38;have m:=Nat.mod_lt j (show 0<38 by decide);rw[←o,show off+j=off+j / 38*38+j%38 by omega,v _ x q _ m];have l:=qpd X _ _ x q m;rw[show j / 38*38+j%38=j by omega] at l;exact l.symm
theorem qdo{w:World}{base:Nat}{v:Value}{n:Nat}{X:List Live}(h:w.ownsRow base 56 38 v n (X.flatMap qk)) :
  n=X.length∧((v = .slice none 0 0∧X=[])∨∃g cap,v = .slice (some ⟨g,0,none⟩) X.length cap∧base≤g∧qf7 w g 0 X):=by
 have q:n=X.length:=by have:=h.1;rw[qmd] at this;omega
 refine⟨q,?_⟩
 subst q
 rcases h.2 with ⟨e,t⟩ | ⟨g,cap,l,e,y,C,z,_,F,E⟩
 ·exact .inl ⟨e,List.length_eq_zero_iff.1 t⟩
 ·refine .inr ⟨g,cap,e,y,l,_,C,by have:=Nat.mul_le_mul_right 38 z;omega,fun i x o j D=> ?_⟩;have m:=(List.getElem?_eq_some_iff.1 o).1;rw[Nat.zero_add,←qpd X i j x o D,←E,List.getElem?_take,if_pos (by have:=Nat.mul_le_mul_right 38 (show i+1≤X.length from m);omega),Array.getElem?_toList]
theorem Tryz.infoLiveB:(Tryz.prog.info? 56).map (fun i=>(i.size,i.bytes,i.zero.map (·.cells.size)))=some (38,80,some 38):=by kernel_rfl
theorem q8q:∃i z,Tryz.prog.info? 56=some i∧i.zero=some z∧i.size=38∧i.bytes=80∧z.cells.size=38:=by
 have h:=Tryz.infoLiveB;cases m:Tryz.prog.info? 56 with
 | none=>rw[m] at h;simp at h
 | some i =>
  rw[m] at h;simp only[Option.map_some,Option.some.injEq,Prod.mk.injEq] at h;obtain⟨o,q,g⟩:=h;cases l:i.zero with
  | none=>rw[l] at g;simp at g
  | some z=>rw[l] at g;simp at g;exact⟨i,z,rfl,l,o,q,g⟩
set_option maxRecDepth 100000 in
set_option maxHeartbeats 1000000 in
theorem quw(v:Value)(xs:List Live)(R:xs.length≤1048576)(w:World)(hv:qe6 w v xs) :
  Calls Tryz.prog 45 #[v] w fun e w'=>∃u,e = .returned u∧qq w w'∧((∃a c,u = .slice a 0 c∧xs=[])∨∃g cap,u = .slice (some ⟨g,0,none⟩) xs.length cap∧w.heap.size≤g∧qf7 w' g 0 xs):=by
 have x:(∃c,v = .slice none 0 c∧xs=[])∨∃(a:Addr) (cap:Nat),v = .slice (some a) xs.length cap∧∀j u,(xs.flatMap qk)[j]? = some u→w.cell? (a.add j)=some u:=by
  rcases hv with ⟨a,c,rfl,rfl⟩ | ⟨g,off,cap,rfl,q⟩
  ·cases a with
   | none=>exact .inl ⟨_,rfl,rfl⟩
   | some a=>exact .inr ⟨a,c,rfl,by simp⟩
  ·exact .inr ⟨_,cap,rfl,q.cells⟩
 rcases x with ⟨c,rfl,rfl⟩ | ⟨a,cap,rfl,q⟩
 ·go_enter Tryz.func45,Tryz.ntmps45;have D:=fun(w:World)=>run_eql_slice_nil (P:=Tryz.prog) w 51 _ none 0 c Tryz.underlying51
  go_wp2
  first | go_ret2 | go_ret
  exact⟨_,rfl,Upd.refl _ _,.inl ⟨_,_,rfl,trivial⟩⟩
 ·obtain⟨K,V,H,J,y,z,C⟩:=q8q;have D:=fun(w:World)=>run_eql_slice_nil (P:=Tryz.prog) w 51 _ (some a) xs.length cap Tryz.underlying51
  simp only[Option.isNone_some] at D;go_enter Tryz.func45,Tryz.ntmps45;go_wp2_with (at_builtin;refine wpList_append_own _ rfl (.tmp 5) (.tmp 6) 51 rfl w.heap.size 56 K _ 38 80 Tryz.underlying51 H J y z C (by decide) _ 0 [] rfl (World.ownsRow_made (base:=w.heap.size) w #[] 0 (Nat.le_refl _) (by decide) rfl) a xs.length cap (xs.flatMap qk) rfl (qmd xs) ?c1 (q7p xs) ?c3 ?c4 ?c5 ?_)
  case c1 =>
   intro j u I;exact((Upd.refl (fun _=>False) w).alloc _).cell (q j u I) (fun h=>h)
  case c3=>unfold maxLen;omega
  case c4=>omega
  case c5=>simp
  intro U M i l _;have L:qq w M:=((Upd.refl _ w).alloc _).grown l (fun k h O=>by simp[Value.ownBlock] at h;omega);have m:=(qdo i).2;obtain⟨N,T,c5,rfl⟩:=qmp i;have E:=qb m;clear m i l;go_wp2
  first | go_ret2 | go_ret
  refine⟨_,rfl,L,?_⟩;rcases qa E with h | ⟨g',o,e,F,t⟩
  ·exact .inl ⟨_,_,h.1,h.2⟩
  ·exact .inr ⟨g',o,e,F,t⟩
def Live.zero:Live:=⟨⟨0,0,Vector.replicate 32 0,0⟩,false,0,false⟩
def zac:Sem Value:=Instr.alloc 56 true (.tuple #[])
theorem qg9:Instr.alloc 56 true (.tuple #[])=zac:=rfl
theorem qq2(w:World):zac.run Tryz.prog w = .ok (.pointer (some ⟨w.heap.size,0,none⟩)) (w.alloc (.cells (qk Live.zero).toArray 56)):=by kernel_rfl
theorem qfd{w:World}{b:Nat}{C:Array Value}{T:TypeId}(h:w.heap[b]? = some (.cells C T (0,0))){A:List Value}(i:A.length=C.size)(g:∀v∈A,v.oneCell'=true):stOk w b 0 C.size A.toArray=true :=
 qf3 h (by omega) (by simpa using i) (by rw[Array.all_eq_true_iff_forall_mem];intro v hv;exact g v (by simpa using hv))
theorem qpn(w:World)(x:Live):stOk (w.alloc (.cells (qk Live.zero).toArray 56)) w.heap.size 0 38 (qk x).toArray=true :=
 qfd (C:=(qk Live.zero).toArray) (qi _ _) (by rw[qa2];rfl) (qee x)
theorem qph(w:World)(x:Live):((w.alloc (.cells (qk Live.zero).toArray 56)).setCells w.heap.size 0 (qk x)).heap[w.heap.size]? = some (.cells (qk x).toArray 56 (0,0))∧qq w ((w.alloc (.cells (qk Live.zero).toArray 56)).setCells w.heap.size 0 (qk x)) :=
 qoe w _ _ _ (by rw[qa2];rfl)
def zq(P:Program)(o:Oper)(ρ:Operand→Value)(w:World)(K:Value→World→Prop):Prop :=
 match (execOp ρ o).run P w with
 | .ok (.value v) w'=>K v w'
 | .ok .skip w'=>K undef w'
 | .ok (.enter f args) w'=>Calls P f args w' fun e g=>∃v,e = .returned v∧K v g
 | _=>False
theorem qjl{P:Program}{o:Oper}{a:Act}{ρ:Operand→Value}{w:World}{K:Value→World→Prop}{m:Act→World→Prop}{Q:Exit→Act→World→Prop}(g:execOp a.eval o=execOp ρ o)
  (h:zq P o ρ w K) (i:∀v w',K v w'→m (a.put o.dst v) w'):o.wp P a w m Q:=by
 unfold zq at h
 unfold Oper.wp
 rw[g]
 generalize (execOp ρ o).run P w=r at h ⊢
 cases r with
 | ok n w' =>
  cases n<;>simp only at h<;>simp only[Oper.upon]
  ·exact i _ _ h
  ·exact i _ _ h
  ·refine h.mono fun e q g=> ?_
   obtain⟨v,rfl,hv⟩:=g;exact i _ _ hv
 | halt x w'=>simp only at h
def putL(a:Act)(qm:Nat→Value):List (Nat × Nat)→Act
 | []=>a
 | p::r=>putL (a.put (some p.2) (qm p.1)) qm r
theorem qip(qm:Nat→Value):∀(L:List (Nat × Nat)) (a:Act),(putL a qm L).defers=a.defers
 | [],_=>rfl
 | p::r,a=>qip qm r _
theorem qey(qm:Nat→Value):∀(L:List (Nat × Nat)) (a:Act) (t:Nat),(∀p∈L,p.2≠t)→(putL a qm L).tmps[t]? = a.tmps[t]?
 | [],_,_,_=>rfl
 | p::r,a,t,h=>by
  rw[putL,qey qm r _ t fun q g=>h q (List.mem_cons_of_mem _ g)];have:=h p (List.mem_cons_self ..);simp[Act.put,Array.getElem?_setIfInBounds_ne this]
theorem qkj(qm:Nat→Value):∀(L:List (Nat × Nat)) (a:Act) (p:Nat × Nat),p∈L→(∀q∈L,q.2=p.2→q.1=p.1)→p.2<a.tmps.size→(putL a qm L).tmps[p.2]? = some (qm p.1)
 | [],_,_,h,_,_=>by cases h
 | q::r,a,p,h,v,t=>by
  rw[putL];by_cases o:∃i∈r,i.2=p.2
  ·obtain⟨i,g,e⟩:=o;have w:=v i (List.mem_cons_of_mem _ g) e;have m:p∈r:=by
    have:i=p:=Prod.ext w e;exact this▸g
   exact qkj qm r _ p m (fun q y=>v q (List.mem_cons_of_mem _ y)) (by simpa [Act.put] using t)
  ·have x:p=q:=by
    rcases List.mem_cons.1 h with h | h
    ·exact h
    ·exact absurd ⟨p,h,rfl⟩ o
   rw[qey qm r _ p.2 fun i g e=>o ⟨i,g,e⟩,←x];simp[Act.put,t]
def qwp:List Oper→List (List Nat)→List (List Nat)
 | [],g=>g
 | o::r,g=>qwp r (g++[((o.after.toList.filter (Region.binds .any)).flatMap fun e=>e.on::g.getD e.on []).foldl (fun s k=>if s.contains k then s else k::s) []])
def qbp(l:List Oper)(j:Nat):Option Nat:=(l[j]?).bind (·.dst)
def looks(l:List Oper)(o:Oper):List Nat:=o.looksAt l.toArray
def za1(l:List Oper)(A:List (List Nat))(L:List (List (Nat × Nat)))(n:Nat):Bool :=
 (List.range l.length).all fun i=>match l[i]? with
  | none=>true
  | some o =>
   (o.after.toList.all fun e=> !Region.binds .any e || ((A.getD i []).contains e.on&&(A.getD e.on []).all fun k=>(A.getD i []).contains k)) &&
   ((A.getD i []).all fun k=>o.after.toList.any fun e=>Region.binds .any e&&(k==e.on || (A.getD e.on []).contains k)) &&
   ((A.getD i []).all fun k=>k<i) &&
   ((looks l o).all fun t=>(List.range l.length).all fun j=>qbp l j != some t || (A.getD j []).contains i || ((A.getD i []).contains j&&(L.getD i []).contains (j,t))) &&
   ((L.getD i []).all fun p=>(A.getD i []).contains p.1&&qbp l p.1==some p.2) &&
   (match o.dst with
    | some t=>t<n&&(List.range l.length).all fun j=>j==i || qbp l j != some t
    | none=>true) &&
   (match o.guard with | some (g,_)=>(A.getD i []).contains g&&(qbp l g).isSome | none=>true) &&
   (match o.op with | .select .. => false | _=>true)
section
variable {P:Program}{l:List Oper}{A:List (List Nat)}{L:List (List (Nat × Nat))}{n:Nat}
structure Dag(l:List Oper)(A:List (List Nat))(L:List (List (Nat × Nat)))(n:Nat):Prop where
 edge:∀(i:Nat) o,l[i]? = some o→∀e∈o.after,Region.binds .any e=true→e.on∈A.getD i []∧∀k∈A.getD e.on [],k∈A.getD i []
 anc:∀(i:Nat) o,l[i]? = some o→∀k∈A.getD i [],k<i∧∃e∈o.after,Region.binds .any e=true∧(k=e.on∨k∈A.getD e.on [])
 look:∀(i:Nat) o,l[i]? = some o→∀t∈o.looksAt l.toArray,∀j,qbp l j=some t→i∈A.getD j []∨(j∈A.getD i []∧(j,t)∈L.getD i [])
 lis:∀(i:Nat) o,l[i]? = some o→∀p∈L.getD i [],p.1∈A.getD i []∧qbp l p.1=some p.2
 slot:∀(i:Nat) t,qbp l i=some t→t<n∧∀j,qbp l j=some t→j=i
 guard:∀(i:Nat) o,l[i]? = some o→∀g b,o.guard=some (g,b)→g∈A.getD i []∧∃t,qbp l g=some t
 sel:∀(i:Nat) o,l[i]? = some o→∀cs b,o.op ≠ .select cs b
theorem qmw{i t:Nat}(h:qbp l i=some t):i<l.length∧∃o,l[i]? = some o∧o.dst=some t:=by
 unfold qbp at h;cases g:l[i]? with
 | none=>rw[g] at h;cases h
 | some o=>rw[g] at h;exact⟨(List.getElem?_eq_some_iff.1 g).1,o,rfl,h⟩
theorem q2w(h:za1 l A L n=true):Dag l A L n:=by
 have key:∀(i:Nat) o,l[i]? = some o→_:=fun i o m=>by
  have z:i<l.length:=(List.getElem?_eq_some_iff.1 m).1;have:=List.all_eq_true.1 h i (List.mem_range.2 z);rw[m] at this;simp only[Bool.and_eq_true] at this;exact this
 refine⟨?_,?_,?_,?_,?_,?_,?_⟩
 ·intro i o m e y v;obtain⟨⟨⟨⟨⟨⟨⟨k,_⟩,_⟩,_⟩,_⟩,_⟩,_⟩,_⟩:=key i o m;have:=List.all_eq_true.1 k e (by simpa using y);simpa [v] using this
 ·intro i o m k C;obtain⟨⟨⟨⟨⟨⟨⟨_,I⟩,J⟩,_⟩,_⟩,_⟩,_⟩,_⟩:=key i o m;have w:=List.all_eq_true.1 I k C;have x:=List.all_eq_true.1 J k C;obtain⟨e,y,v⟩:=List.any_eq_true.1 w;simp only[Bool.and_eq_true,Bool.or_eq_true,beq_iff_eq,List.contains_iff_mem] at v;exact⟨by simpa using x,e,by simpa using y,v⟩
 ·intro i o m t H j q;obtain⟨⟨⟨⟨⟨⟨⟨_,_⟩,_⟩,k⟩,_⟩,_⟩,_⟩,_⟩:=key i o m;have w:=List.all_eq_true.1 k t H;have x:=List.all_eq_true.1 w j (List.mem_range.2 (qmw q).1);simpa [q] using x
 ·intro i o m p E;obtain⟨⟨⟨⟨⟨⟨⟨_,_⟩,_⟩,_⟩,k⟩,_⟩,_⟩,_⟩:=key i o m;have:=List.all_eq_true.1 k p E;simpa using this
 ·intro i t z;obtain⟨_,o,m,hd⟩:=qmw z;obtain⟨⟨⟨⟨⟨⟨⟨_,_⟩,_⟩,_⟩,_⟩,k⟩,_⟩,_⟩:=key i o m;rw[hd] at k;simp only[Bool.and_eq_true,decide_eq_true_eq] at k;refine⟨k.1,fun j q=> ?_⟩;have:=List.all_eq_true.1 k.2 j (List.mem_range.2 (qmw q).1);simpa [q] using this
 ·intro i o m g b D;obtain⟨⟨⟨⟨⟨⟨⟨_,_⟩,_⟩,_⟩,_⟩,_⟩,k⟩,_⟩:=key i o m;rw[D] at k;simp only[Bool.and_eq_true,List.contains_iff_mem] at k;exact⟨k.1,Option.isSome_iff_exists.1 k.2⟩
 ·intro i o m cs b F;obtain⟨⟨⟨⟨⟨⟨⟨_,_⟩,_⟩,_⟩,_⟩,_⟩,_⟩,k⟩:=key i o m;rw[F] at k;cases k
def qwm(P:Program)(a0:Act)(S:World→Prop)(R:World→World→Prop)(Φ:Nat→Value→World→Prop)(i:Nat)(o:Oper)(Li:List (Nat × Nat)):Prop :=
 ∀(qm:Nat→Value) (w:World),S w→(∀p∈Li,Φ p.1 (qm p.1) w) →
  match o.guard with
  | none=>zq P o (putL a0 qm Li).eval w fun v w'=>R w w'∧S w'∧Φ i v w'
  | some (g,b)=>Φ g (qm g) w→(qm g = .bool b→zq P o (putL a0 qm Li).eval w fun v w'=>R w w'∧S w'∧Φ i v w')∧(qm g ≠ .bool b→Φ i undef w)
def qaf(P:Program)(a0:Act)(S:World→Prop)(R:World→World→Prop)(Φ:Nat→Value→World→Prop):Nat→List Oper→List (List (Nat × Nat))→Prop
 | _,[],_=>True
 | i,o::os,L=>qwm P a0 S R Φ i o (L.headD [])∧qaf P a0 S R Φ (i+1) os L.tail
theorem qaf.nil{a0:Act}{S:World→Prop}{R:World→World→Prop}{Φ:Nat→Value→World→Prop}{i:Nat}{L:List (List (Nat × Nat))} : qaf P a0 S R Φ i [] L:=trivial
theorem qaf.cons{a0:Act}{S:World→Prop}{R:World→World→Prop}{Φ:Nat→Value→World→Prop}{i:Nat}{o:Oper}{os:List Oper}{Li:List (Nat × Nat)}{L:List (List (Nat × Nat))}(h:qwm P a0 S R Φ i o Li)
  (k:qaf P a0 S R Φ (i+1) os L):qaf P a0 S R Φ i (o::os) (Li::L):=⟨h,k⟩
def q6o(Φ:Nat→Value→World→Prop)(qm:Nat→Value)(w:World):List (Nat × Nat)→Prop
 | []=>True
 | p::r=>Φ p.1 (qm p.1) w∧q6o Φ qm w r
theorem qor{Φ:Nat→Value→World→Prop}{qm:Nat→Value}{w:World} : ∀ {L:List (Nat × Nat)},(∀p∈L,Φ p.1 (qm p.1) w)→q6o Φ qm w L
 | [],_=>trivial
 | p::r,h=>⟨h p (List.mem_cons_self ..),qor fun q g=>h q (List.mem_cons_of_mem _ g)⟩
theorem qaf.plain{a0:Act}{S:World→Prop}{R:World→World→Prop}{Φ:Nat→Value→World→Prop}{i:Nat}{o:Oper}{os:List Oper}{Li:List (Nat × Nat)}{L:List (List (Nat × Nat))}(m:o.guard=none)
  (h:∀(qm:Nat→Value) (w:World),S w→q6o Φ qm w Li→zq P o (putL a0 qm Li).eval w fun v w'=>R w w'∧S w'∧Φ i v w')
  (k:qaf P a0 S R Φ (i+1) os L):qaf P a0 S R Φ i (o::os) (Li::L) :=
 ⟨fun qm w g q=>by rw[m];exact h qm w g (qor q),k⟩
theorem q01{o:Oper}{ρ:Operand→Value}{w:World}{v:Value}{w':World}{K:Value→World→Prop}(h:(execOp ρ o).run P w = .ok (.value v) w')(k:K v w'):zq P o ρ w K:=by
 unfold zq;rw[h];exact k
theorem qaf.at{a0:Act}{S:World→Prop}{R:World→World→Prop}{Φ:Nat→Value→World→Prop} : ∀ {os:List Oper} {L:List (List (Nat × Nat))} {k:Nat},qaf P a0 S R Φ k os L→∀(i:Nat) o,os[i]? = some o→qwm P a0 S R Φ (k+i) o (L.getD i [])
 | [],_,_,_,_,_,h=>by simp at h
 | o::os,L,k,h,0,m,g=>by
  simp only[List.getElem?_cons_zero,Option.some.injEq] at g;subst g;have:=h.1;cases L<;>exact this
 | o::os,L,k,h,i+1,m,g=>by
  have:=qaf.at h.2 i m (by simpa using g);rw[show k+(i+1)=k+1+i by omega];cases L<;>exact this
def qbc(l:List Oper):List (Nat × Nat):=(List.range l.length).filterMap fun i=>(qbp l i).map fun t=>(i,t)
structure DagInv(l:List Oper)(A:List (List Nat))(a0:Act)(S:World→Prop)(Φ:Nat→Value→World→Prop)(listed:Array Bool)(a:Act)(w:World)(qm:Nat→Value):Prop where
 size:listed.size=l.length
 s:S w
 phi:∀i,listed.getD i false=true→Φ i (qm i) w
 shut:∀i,listed.getD i false=true→∀k∈A.getD i [],listed.getD k false=true
 defers:a.defers=a0.defers
 tmps:a.tmps.size=a0.tmps.size
 other:∀t,(∀i,listed.getD i false=true→qbp l i≠some t)→a.tmps[t]? = a0.tmps[t]?
 at_:∀i t,listed.getD i false=true→qbp l i=some t→a.tmps[t]? = some (qm i)
theorem q2h{a b:Act}(hd:a.defers=b.defers)(g:∀t:Nat,a.tmps[t]? = b.tmps[t]?):a=b:=by
 cases a;cases b;simp only at hd g;subst hd;congr 1;exact Array.ext_getElem? g
theorem qgk{g:Array Bool}{i:Nat}(h:i<g.size):(g.setIfInBounds i true).getD i false=true:=by simp[h]
theorem qai{g:Array Bool}{i j:Nat}(h:i<g.size):(g.setIfInBounds i true).getD j false=true↔j=i∨g.getD j false=true:=by
 by_cases e:i=j
 ·subst e;simp[h]
 ·rw[getD_set_ne false e];constructor
  ·exact .inr
  ·rintro (rfl | h)
   ·exact absurd rfl e
   ·exact h
theorem zfc(D:Dag l A L n){a0:Act}(hn:a0.tmps.size=n){S:World→Prop}{R:World→World→Prop}{Φ:Nat→Value→World→Prop}{Q:Exit→Act→World→Prop}
  (b8:∀w,R w w) (Z:∀i v w w',S w→S w'→R w w'→Φ i v w→Φ i v w') (a6:qaf P a0 S R Φ 0 l L)
  (b9:∀qm w,S w→(∀i,i<l.length→Φ i (qm i) w)→Q .normal (putL a0 qm (qbc l)) w) :
  ∀(E:Nat) (y:Array Bool) (a:Act) (w:World) (qm:Nat→Value),DagInv l A a0 S Φ y a w qm→(List.range l.length).countP (fun i=> !y.getD i false)≤E→wpAny P .any l.toArray Q E y a w:=by
 have W:∀(y:Array Bool) (a:Act) (w:World) (qm:Nat→Value),DagInv l A a0 S Φ y a w qm→Region.ready .any l.toArray y=[]→Q .normal a w:=by
  intro y a w qm I hr;have a7:∀(i:Nat),i<l.length→y.getD i false=true:=by
   intro i
   induction i using Nat.strongRecOn with
   | _ i ih =>
    intro N;cases hl:y.getD i false with
    | true=>rfl
    | false =>
     exfalso;have:i∈Region.ready .any l.toArray y:=by
      rw[mem_ready];have ho:l[i]? = some l[i]:=List.getElem?_eq_getElem N;refine⟨?_,l[i],by simp[N],fun e he hb=> ?_⟩
      ·rw[Array.getD_eq_getD_getElem?] at hl ⊢;have:i<y.size:=by rw[I.size];exact N
       rw[Array.getElem?_eq_getElem this] at hl ⊢;simpa using hl
      ·have M:=(D.edge i _ ho e he hb).1;have h2:=(D.anc i _ ho _ M).1;exact ih _ h2 (by omega)
     rw[hr] at this;cases this
  have ha:a=putL a0 qm (qbc l):=by
   refine q2h (by rw[qip];exact I.defers) fun t=> ?_
   by_cases h:∃i,qbp l i=some t
   ·obtain⟨i,N⟩:=h;have K:=(qmw N).1;rw[I.at_ i t (a7 i K) N];have hm:(i,t)∈qbc l:=by
     unfold qbc;rw[List.mem_filterMap];exact⟨i,List.mem_range.2 K,by rw[N];rfl⟩
    refine(qkj qm (qbc l) a0 (i,t) hm (fun q hq e=> ?_) (by rw[hn];exact(D.slot i t N).1)).symm;unfold qbc at hq;rw[List.mem_filterMap] at hq;obtain⟨j,_,z⟩:=hq;rw[Option.map_eq_some_iff] at z;obtain⟨t',a5,rfl⟩:=z;simp only at e;subst e;exact(D.slot i _ N).2 j a5
   ·rw[I.other t fun i _ O=>h ⟨i,O⟩,qey];intro p hp e;unfold qbc at hp;rw[List.mem_filterMap] at hp;obtain⟨j,_,z⟩:=hp;rw[Option.map_eq_some_iff] at z;obtain⟨t',a5,rfl⟩:=z;exact h ⟨j,by rw[a5,←e]⟩
  rw[ha];exact b9 qm w I.s fun i N=>I.phi i (a7 i N)
 intro E
 induction E with
 | zero =>
  intro y a w qm I hc;have hr:Region.ready .any l.toArray y=[]:=by
   rw[List.eq_nil_iff_forall_not_mem];intro i N;obtain⟨h0,o,ho,_⟩:=mem_ready.1 N;have K:i<l.length:=by simpa using (Array.getElem?_eq_some_iff.1 ho).1
   have:(List.range l.length).countP (fun i=> !y.getD i false)=0:=by omega
   rw[List.countP_eq_zero] at this;have:=this i (List.mem_range.2 K);rw[Array.getD_eq_getD_getElem?] at h0 this;have O:i<y.size:=by rw[I.size];exact K
   rw[Array.getElem?_eq_getElem O] at h0 this;simp at h0 this;rw[h0] at this;cases this
  exact⟨hr,W y a w qm I hr⟩
 | succ E ih =>
  intro y a w qm I hc;refine⟨fun hr=>W y a w qm I hr,fun i N=> ?_⟩;obtain⟨h0,o,ho,a8⟩:=mem_ready.1 N;have K:i<l.length:=by simpa using (Array.getElem?_eq_some_iff.1 ho).1
  have O:i<y.size:=by rw[I.size];exact K
  have H:l[i]? = some o:=by simpa using ho
  have Y:y.getD i false=false:=by
   rw[Array.getD_eq_getD_getElem?] at h0 ⊢;rw[Array.getElem?_eq_getElem O] at h0 ⊢;simpa using h0
  have T:∀k∈A.getD i [],y.getD k false=true:=by
   intro k hk;obtain⟨_,e,he,hb,h⟩:=D.anc i o H k hk;have M:=a8 e he hb;rcases h with rfl | h
   ·exact M
   ·exact I.shut _ M k h
  have a4:∀t∈o.looksAt l.toArray,a.tmps[t]? = (putL a0 qm (L.getD i [])).tmps[t]? := by
   intro t ht;by_cases h:∃j,y.getD j false=true∧qbp l j=some t
   ·obtain⟨j,z,C⟩:=h;rcases D.look i o H t ht j C with M | ⟨M,h2⟩
    ·have:=I.shut j z i M;rw[Y] at this;cases this
    ·rw[I.at_ j t z C];refine(qkj qm _ a0 (j,t) h2 (fun q hq e=> ?_) (by rw[hn];exact(D.slot j t C).1)).symm;have:=(D.lis i o H q hq).2;rw[e] at this;exact(D.slot j t C).2 _ this
   ·rw[I.other t fun j z O=>h ⟨j,z,O⟩,qey];intro p hp e;obtain⟨M,h2⟩:=D.lis i o H p hp;exact h ⟨p.1,T _ M,by rw[h2,e]⟩
  have U:execOp a.eval o=execOp (putL a0 qm (L.getD i [])).eval o:=by
   refine execOp_congr o (D.sel i o H) fun x hx=> ?_
   cases x with
   | tmp t =>
    have:=a4 t (List.mem_append_left _ (List.mem_filterMap.2 ⟨.tmp t,by simpa using hx,rfl⟩));simp only[Act.eval,Array.getD_eq_getD_getElem?,this]
   | _=>rfl
  have b7:=a6.at i o H;rw[Nat.zero_add] at b7;have J:=b7 qm w I.s fun p hp=>I.phi _ (T _ (D.lis i o H p hp).1)
  have next:∀v w',R w w'→S w'→Φ i v w'→wpAny P .any l.toArray Q E (y.setIfInBounds i true) (a.put o.dst v) w':=by
   intro v w' hR hS hΦ;have X:qbp l i=o.dst:=by unfold qbp;rw[H];rfl
   refine ih (y.setIfInBounds i true) (a.put o.dst v) w' (fun j=>if j=i then v else qm j) ⟨?_,hS,?_,?_,?_,?_,?_,?_⟩ ?_
   ·rw[Array.size_setIfInBounds];exact I.size
   ·intro j z;rcases (qai O).1 z with rfl | F
    ·simpa using hΦ
    ·have V:j≠i:=by rintro rfl;rw[Y] at F;cases F
     simp only[if_neg V];exact Z j _ w w' I.s hS hR (I.phi j F)
   ·intro j z k hk;refine(qai O).2 ?_;rcases (qai O).1 z with rfl | F
    ·exact .inr (T k hk)
    ·exact .inr (I.shut j F k hk)
   ·cases o.dst<;>exact I.defers
   ·cases hd:o.dst with
    | none=>exact I.tmps
    | some d=>simpa [Act.put] using I.tmps
   ·intro t ht;have M:=I.other t fun j z=>ht j ((qai O).2 (.inr z))
    have h2:=ht i ((qai O).2 (.inl rfl));rw[X] at h2;cases hd:o.dst with
    | none=>exact M
    | some d =>
     have V:d≠t:=by rintro rfl;exact h2 hd
     simpa [Act.put,Array.getElem?_setIfInBounds_ne V] using M
   ·intro j t z C;rcases (qai O).1 z with rfl | F
    ·rw[X] at C;rw[C,if_pos rfl];have:t<a.tmps.size:=by rw[I.tmps,hn];exact(D.slot j t (by rw[X,C])).1
     simp[Act.put,this]
    ·have V:j≠i:=by rintro rfl;rw[Y] at F;cases F
     rw[if_neg V];have M:=I.at_ j t F C;cases hd:o.dst with
     | none=>exact M
     | some d =>
      have b6:d≠t:=by
       rintro rfl;exact V ((D.slot i d (by rw[X,hd])).2 j C)
      simpa [Act.put,Array.getElem?_setIfInBounds_ne b6] using M
   ·have M:(List.range l.length).countP (fun j=> !(y.setIfInBounds i true).getD j false)<(List.range l.length).countP (fun j=> !y.getD j false):=by
     have b5:i∈List.range l.length:=List.mem_range.2 K;obtain⟨s,r,c2⟩:=List.append_of_mem b5;rw[c2,List.countP_append,List.countP_append,List.countP_cons,List.countP_cons];have m:∀xs:List Nat,xs.countP (fun j=> !(y.setIfInBounds i true).getD j false)≤xs.countP (fun j=> !y.getD j false):=by
      intro xs;refine List.countP_mono_left fun j _ z=> ?_
      cases h:y.getD j false with
      | false=>rfl
      | true=>rw[(qai O).2 (.inr h)] at z;cases z
     have m1:=m s;have m2:=m r;rw[qgk O,Y];simp only[Bool.not_true,Bool.not_false,Bool.false_eq_true,if_false,if_true];omega
    omega
  unfold wpOp;rw[ho];simp only;cases hg:o.guard with
  | none =>
   rw[hg] at J;rw[if_pos (by unfold Region.wanted;rw[hg])];exact .inl (qjl U J fun v w' h=>next v w' h.1 h.2.1 h.2.2)
  | some gb =>
   obtain⟨g,b⟩:=gb;rw[hg] at J;obtain⟨c1,t,b4⟩:=D.guard i o H g b hg;have b3:=T g c1;have c0:=I.at_ g t b3 b4;obtain⟨p1,p2⟩:=J (I.phi g b3);have hy:Region.wanted o (yielded l.toArray a.tmps)=true↔qm g = .bool b:=by
    unfold Region.wanted yielded;rw[hg];have e1:(l.toArray[g]?).bind (·.dst)=some t:=by simpa [qbp] using b4
    simp only[e1,Option.bind_some,c0];constructor
    ·intro h;split at h
     ·rename_i b' a9;simp only[Option.some.injEq] at a9;simp at h;rw[a9,h]
     ·simp at h
    ·intro h;rw[h];simp
   by_cases hw:Region.wanted o (yielded l.toArray a.tmps)=true
   ·rw[if_pos hw];exact .inl (qjl U (p1 (hy.1 hw)) fun v w' h=>next v w' h.1 h.2.1 h.2.2)
   ·rw[if_neg hw];exact next undef w (b8 w) I.s (p2 fun h=>hw (hy.2 h))
theorem qb1(n i:Nat):(Array.replicate n false).getD i false=false:=by
 rw[Array.getD_eq_getD_getElem?,Array.getElem?_replicate];split<;>rfl
theorem zjm{id:Nat}{a:Act}{w:World}{Q:Exit→Act→World→Prop}(D:P.follows .mixedOrders=true)(L:List (List (Nat × Nat)))(n:Nat)(E:a.tmps.size=n)(z:za1 l (qwp l []) L n=true)(A:List (Nat × Nat))(y:qbc l=A)
  (S:World→Prop) (R:World→World→Prop) (Φ:Nat→Value→World→Prop) (C:S w.drew) (q:∀w,R w w) (g:∀i v w w',S w→S w'→R w w'→Φ i v w→Φ i v w')
  (o:qaf P a S R Φ 0 l L) (x:∀qm w,S w→(∀i,i<l.length→Φ i (qm i) w)→Q .normal (putL a qm A) w) :
  (Code.region id l.toArray true).wp P Q a w:=by
 subst y
 refine wp_region_any D ?_
 refine zfc (q2w z) E q g o x _ _ a _ (fun _=>undef) ⟨by simp,C,?_,?_,rfl,rfl,fun _ _=>rfl,?_⟩ ?_
 ·intro i m;rw[qb1] at m;cases m
 ·intro i m;rw[qb1] at m;cases m
 ·intro i t m;rw[qb1] at m;cases m
 ·refine Nat.le_trans List.countP_le_length ?_;simp
end
end Go.Proofs.YthnohmjbbeahmaaGreatDoor
