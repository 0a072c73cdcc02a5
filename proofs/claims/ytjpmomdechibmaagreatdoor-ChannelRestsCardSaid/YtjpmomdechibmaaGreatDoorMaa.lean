/-
  Words of our own on worlds: 'Upd S w w'': the streams are as they were, no block has gone, and each old block outside S holds what it held.
-/
import Derived.WalkKit
import Derived.WalkSpells
import Derived.WalkLawsBesides
import Derived.BigQuiet
import Derived.Lib.Hide
import Derived.Deep.MidRow
import Derived.Laws.Tables
import Derived.Great.BuildSlice
import Derived.Test.YtjpmomdechibmaaGreatDoorProg
import Derived.Test.YtjpmomdechibmaaGreatDoorRows
import Derived.IntWalk
import Derived.Outline
import Derived.Deep.CutRange
import Derived.BigRegion
import Derived.Deep.RegionLaw
import Derived.Lib.LazyBuf
set_option linter.unusedVariables false
set_option linter.unusedSimpArgs false
namespace Go.Proofs.YtjpmomdechibmaaGreatDoor
open Go.RowKit
theorem qb{p:Prop}(h:p):Hid p:=h
theorem qa{p:Prop}(h:Hid p):p:=h
structure Upd(S:Nat→Prop)(w w':World):Prop where
 os:w'.os=w.os
 tape:w'.tape=w.tape
 output:w'.output=w.output
 size:w.heap.size≤w'.heap.size
 block:∀k,k<w.heap.size→¬S k→w'.heap[k]? = w.heap[k]?
abbrev qy(w w':World):Prop:=Upd (fun _=>False) w w'
theorem Upd.refl(S:Nat→Prop)(w:World):Upd S w w:=⟨rfl,rfl,rfl,Nat.le_refl _,fun _ _ _=>rfl⟩
theorem Upd.trans{S:Nat→Prop}{a b c:World}(h:Upd S a b)(k:Upd S b c):Upd S a c :=
 ⟨k.os.trans h.os,k.tape.trans h.tape,k.output.trans h.output,Nat.le_trans h.size k.size,fun i f g=>(k.block i (Nat.lt_of_lt_of_le f h.size) g).trans (h.block i f g)⟩
theorem Upd.then{S T:Nat→Prop}{a b c:World}(h:Upd S a b)(k:Upd T b c)(l:∀i,i<a.heap.size→T i→S i):Upd S a c :=
 ⟨k.os.trans h.os,k.tape.trans h.tape,k.output.trans h.output,Nat.le_trans h.size k.size,fun i f g=>(k.block i (Nat.lt_of_lt_of_le f h.size) (fun t=>g (l i f t))).trans (h.block i f g)⟩
theorem Upd.mono{S T:Nat→Prop}{a b:World}(h:Upd S a b)(f:∀i,i<a.heap.size→S i→T i):Upd T a b :=
 (Upd.refl T a).then h f
theorem Upd.drew{S:Nat→Prop}{a w:World}(h:Upd S a w):Upd S a w.drew:=⟨h.os,h.tape,h.output,h.size,h.block⟩
theorem Upd.drewN{S:Nat→Prop}{a w:World}(h:Upd S a w)(n:Nat):Upd S a (w.drewN n):=⟨h.os,h.tape,h.output,h.size,h.block⟩
theorem Upd.alloc{S:Nat→Prop}{a w:World}(h:Upd S a w)(o:Obj):Upd S a (w.alloc o) :=
 ⟨h.os,h.tape,h.output,Nat.le_trans h.size (by simp),fun i f g=>(Below.heap_alloc w o i (Nat.lt_of_lt_of_le f h.size)).trans (h.block i f g)⟩
theorem Upd.setCell{S:Nat→Prop}{a w:World}(h:Upd S a w){p:Addr}(l:p.block<a.heap.size→S p.block)(u:Value):Upd S a (w.setCell p u) :=
 ⟨h.os,h.tape,h.output,by simpa [World.setCell] using h.size,fun i f g=>(Below.heap_setCell w p u i (by rintro rfl;exact g (l f))).trans (h.block i f g)⟩
theorem Upd.set1{a w:World}{b:Nat}(h:Upd (· = b) a w)(o:Nat)(u:Value):Upd (· = b) a (w.setCell ⟨b,o,none⟩ u):=h.setCell (fun _=>rfl) u
theorem Upd.grown{S:Nat→Prop}{a w w':World}{row:Option Nat}(h:Upd S a w)(f:w.grownBy w' row)(m:∀k,row=some k→k<a.heap.size→S k):Upd S a w' :=
 ⟨f.os.trans h.os,f.tape.trans h.tape,f.output.trans h.output,Nat.le_trans h.size f.size,
  fun i g l=>(f.block i (Nat.lt_of_lt_of_le g h.size) (fun e=>l (m i e.symm g))).trans (h.block i g l)⟩
theorem Upd.below{B:Nat}{a w:World}(h:Upd (fun k=>B≤k) a w)(f:B≤a.heap.size):Below B a w :=
 ⟨h.os,h.tape,h.output,h.size,fun k g=>h.block k (by omega) (by omega)⟩
theorem Upd.below'{S:Nat→Prop}{B:Nat}{a w:World}(h:Upd S a w)(i:B≤a.heap.size)(f:∀k,S k→B≤k):Below B a w :=
 ⟨h.os,h.tape,h.output,h.size,fun k l=>h.block k (by omega) (fun g=>by have:=f k g;omega)⟩
theorem Upd.of_below{B:Nat}{a w:World}(h:Below B a w)(f:a.heap.size≤B):qy a w :=
 ⟨h.os,h.tape,h.output,h.size,fun k g _=>h.block k (by omega)⟩
theorem Upd.old{S:Nat→Prop}{a w:World}(h:Upd S a w){k:Nat}{o:Obj}(f:a.heap[k]? = some o)(g:¬S k):w.heap[k]? = some o :=
 (h.block k (Array.getElem?_eq_some_iff.1 f).1 g).trans f
theorem Upd.cell{S:Nat→Prop}{a w:World}(h:Upd S a w){p:Addr}{v:Value}(f:a.cell? p=some v)(g:¬S p.block):w.cell? p=some v :=
 (World.cell?_of_block (h.block p.block (World.block_lt_of_cell? a p f) g)).trans f
def Q(w w':World):Prop:=∃n,w'=w.drewN n
theorem Q.refl(w:World):Q w w:=⟨0,rfl⟩
theorem Q.drewN(w:World)(n:Nat):Q w (w.drewN n):=⟨n,rfl⟩
theorem Q.drewN'{w w':World}(h:Q w w')(n:Nat):Q w (w'.drewN n):=by
 obtain⟨m,rfl⟩:=h
 exact⟨m+n,by rw[World.drewN_drewN]⟩
theorem Q.trans{a b c:World}(h:Q a b)(k:Q b c):Q a c:=by
 obtain⟨m,rfl⟩:=k
 exact h.drewN' m
theorem Q.heap{w w':World}(h:Q w w'):w'.heap=w.heap:=by
 obtain⟨m,rfl⟩:=h
 rfl
theorem Q.upd{w w':World}(h:Q w w')(S:Nat→Prop):Upd S w w':=by
 obtain⟨m,rfl⟩:=h
 exact(Upd.refl S w).drewN m
theorem Q.old{w w':World}(h:Q w w'){k:Nat}{o:Obj}(f:w.heap[k]? = some o):w'.heap[k]? = some o:=by rw[h.heap];exact f
theorem Q.cell{w w':World}(h:Q w w'){p:Addr}{v:Value}(f:w.cell? p=some v):w'.cell? p=some v:=by
 obtain⟨m,rfl⟩:=h
 exact f
theorem Q.frozen{w w':World}(h:Q w w'){p:Addr}{v:Bool}(f:w.frozen? p=v):w'.frozen? p=v:=by
 obtain⟨m,rfl⟩:=h
 exact f
def qcc(v:Value)(w:World)(e:Ending)(w':World):Prop:=e = .returned v∧Q w w'
def qa7(v:Value)(w:World)(e:Ending)(w':World):Prop:=e = .returned v∧qy w w'
theorem zw{w:World}{b:Nat}{o:Obj}(h:w.heap[b]? = some o):b<w.heap.size:=(Array.getElem?_eq_some_iff.1 h).1
theorem qh{w:World}{b:Nat}{cs:Array Value}{T:TypeId}{f:Nat × Nat}(h:w.heap[b]? = some (.cells cs T f))(i:Nat):w.cell? ⟨b,i,none⟩=cs[i]? := by
 simp[World.cell?,h]
theorem qq{w:World}{b:Nat}{cs:Array Value}{T:TypeId}(h:w.heap[b]? = some (.cells cs T (0,0)))(i:Nat):w.frozen? ⟨b,i,none⟩=false:=by
 simp[World.frozen?,h]
theorem zz{w:World}{b:Nat}{cs:Array Value}{T:TypeId}{f:Nat × Nat}(h:w.heap[b]? = some (.cells cs T f))(i:Nat)(v:Value) :
  (w.setCell ⟨b,i,none⟩ v).heap[b]? = some (.cells (cs.setIfInBounds i v) T f):=by
 simp[World.setCell,Array.getElem?_modify,h]
theorem qi(w:World)(o:Obj):(w.alloc o).heap[w.heap.size]? = some o:=heap_alloc_new w o
theorem zl{w:World}{b:Nat}{o:Obj}(h:w.heap[b]? = some o)(x:Obj):(w.alloc x).heap[b]? = some o :=
 (Below.heap_alloc w x b (zw h)).trans h
def bt(s:ByteArray)(n:Nat):Int:=(s.data.toList.getD n 0).toNat
theorem qwi(s:ByteArray)(n:Nat):0≤bt s n∧bt s n≤255:=by
 unfold bt
 have:=(s.data.toList.getD n 0).toNat_lt
 omega
theorem zfg(s:ByteArray)(n:Nat)(h:n<s.size):(s[n].toNat:Int)=bt s n:=by
 have f:n<s.data.size:=h
 unfold bt
 rw[List.getD_eq_getElem?_getD,Array.getElem?_toList,Array.getElem?_eq_getElem f]
 rfl
theorem qm0{P:Program}(t:TypeId)(s:ByteArray)(k:IntKind)(i:Int)(n:Nat)(h:P.underlying t=some .string)(f:i=n)(g:n<s.size)(w:World) :
  (Instr.index t (.string s) (.int k i)).run P w = .ok (.int .u8 (bt s n)) w:=by
 subst f
 rw[run_index_string w t s k _ h,dif_pos (by omega),←zfg s n g]
 rfl
theorem qu7(n:Nat)(h:n<9223372036854775808):IntKind.i64.wrap (n:Int)=n:=by
 simp[IntKind.wrap,IntKind.bits,IntKind.signed]
 split<;>omega
theorem qx6(n:Nat)(h:n<18446744073709551616):(BitVec.ofInt 64 (n:Int)).toNat=n:=by
 simp[BitVec.ofInt]
 omega
theorem qen{P:Program}(w:World)(g f e:TypeId)(v:P.underlying g=some (.slice e))(q:P.underlying e=some (.int .u8))(o:P.underlying f=some .string)
  (b cap:Nat) (xs:List Int) (T:TypeId) (l:Nat × Nat) (n:Nat) (t:xs.length=n) (m:w.heap[b]? = some (.cells (xs.map (Value.int .u8)).toArray T l)) :
  (convert g f (.slice (some ⟨b,0,none⟩) n cap)).run P w = .ok (.string (strOfNums xs)) w:=by
 refine run_convert_bytes_arg w g e v q b 0 n cap xs t (fun i x=> ?_) f o
 rw[Nat.zero_add,qh m i,List.getElem?_toArray,List.getElem?_map,List.getElem?_eq_getElem (by omega)]
 simp[List.getD,List.getElem?_eq_getElem (show i<xs.length by omega)]
def zx(w:World)(b o n:Nat):Option (Array Value) :=
 match w.heap[b]? with
 | some (.cells C _ _)=>if o+n≤C.size then some (C.extract o (o+n)) else none
 | _=>none
def qdw(P:Program)(f:TypeId)(w:World)(b o:Nat):Result Value:=(loadVar f ⟨b,o,none⟩).run P w
theorem qe2{w:World}{b o n:Nat}{A:Array Value}(h:zx w b o n=some A):A.size=n∧∀j,j<n→w.cell? ⟨b,o+j,none⟩=A[j]? := by
 unfold zx at h
 cases f:w.heap[b]? with
 | none=>rw[f] at h;cases h
 | some i =>
  rw[f] at h
  cases i with
  | cells C T l =>
   simp only at h
   split at h
   ·rename_i g
    injection h with h
    subst h
    refine⟨by simp;omega,fun j m=> ?_⟩
    rw[qh f,Array.getElem?_extract,if_pos (by omega)]
   ·cases h
  | _=>cases h
theorem qvs{w:World}{b o n:Nat}{A:Array Value}(h:zx w b o n=some A):w.rangeAt b o A.toList:=by
 obtain⟨l,g⟩:=qe2 h
 intro j v f
 rw[Array.getElem?_toList] at f
 have i:j<n:=by
  have:=(Array.getElem?_eq_some_iff.1 f).1
  omega
 rw[g j i,f]
theorem qca{w:World}{b:Nat}{C:Array Value}{T:TypeId}{f:Nat × Nat}(h:w.heap[b]? = some (.cells C T f))(o n:Nat)(g:o+n≤C.size):zx w b o n=some (C.extract o (o+n)):=by
 unfold zx
 rw[h]
 simp only
 rw[if_pos g]
theorem qaq{w:World}{b:Nat}{C:Array Value}{T:TypeId}{f:Nat × Nat}(h:w.heap[b]? = some (.cells C T f))(n:Nat)(g:C.size=n):zx w b 0 n=some C:=by
 rw[qca h 0 n (by omega)]
 simp[←g]
theorem q5q{w w':World}(b:Nat)(h:w'.heap[b]? = w.heap[b]?)(o n:Nat):zx w' b o n=zx w b o n:=by unfold zx;rw[h]
theorem qis{S:Nat→Prop}{w w':World}{b o n:Nat}{A:Array Value}(h:zx w b o n=some A)(u:Upd S w w')(g:¬S b):zx w' b o n=some A:=by
 rw[q5q b (u.block b ?_ g)]
 ·exact h
 ·by_cases f:b<w.heap.size
  ·exact f
  ·have e:w.heap[b]? = none:=by simp;omega
   unfold zx at h
   rw[e] at h
   cases h
theorem zy{P:Program}(f n:Nat)(d:TypeDesc)(l:P.underlying f=some d)(g:d.isRow=true)(i:(P.info? f).map (·.size)=some n)(b o:Nat)(w:World) :
  (Instr.loadAt f (.pointer (some ⟨b,o,none⟩))).run P w=match zx w b o n with | some A=> .ok (.agg A) w | none=>qdw P f w b o:=by
 cases h:zx w b o n with
 | none =>
  simp only[Instr.loadAt,Instr.sureAddr,Sem.run_bind,Sem.run_pure,Result.andThen_ok,qdw]
 | some A =>
  simp only
  rw[run_loadAt_mid w b o f A.toList d (qvs h) l g (by rw[i,Array.length_toList,(qe2 h).1])]
def stOk(w:World)(b o n:Nat)(A:Array Value):Bool :=
 (match w.heap[b]? with | some (.cells C _ f)=>decide (o+n≤C.size)&&decide (f=(0,0)) | _=>false)&&decide (A.size=n)&&A.all (·.oneCell')
def qfx(P:Program)(f:TypeId)(w:World)(b o:Nat)(A:Array Value):Result Unit:=(Instr.storeAt f (.pointer (some ⟨b,o,none⟩)) (.agg A)).run P w
theorem qff{w:World}{b:Nat}{C:Array Value}{T:TypeId}(h:w.heap[b]? = some (.cells C T (0,0))){o n:Nat}(i:o+n≤C.size){A:Array Value}(g:A.size=n)(f:A.all (·.oneCell')=true):stOk w b o n A=true:=by
 unfold stOk
 rw[h]
 simp only[f,Bool.and_true]
 simp[i,g]
theorem q1u{w:World}{b o n:Nat}{A:Array Value}(h:stOk w b o n A=true):w.there b o A.size∧A.size=n∧A.all (·.oneCell')=true:=by
 unfold stOk at h
 cases f:w.heap[b]? with
 | none=>rw[f] at h;simp at h
 | some l =>
  rw[f] at h
  cases l with
  | cells C T m =>
   simp only[Bool.and_eq_true,decide_eq_true_eq] at h
   obtain⟨⟨⟨q,rfl⟩,g⟩,i⟩:=h
   refine⟨fun j t=>⟨?_,qq f _⟩,g,i⟩
   rw[qh f,Array.getElem?_eq_getElem (by omega)]
   rfl
  | _=>simp at h
theorem qay{P:Program}(f n:Nat)(m:(P.info? f).map (·.size)=some n)(b o:Nat)(A:Array Value)(w:World) :
  (Instr.storeAt f (.pointer (some ⟨b,o,none⟩)) (.agg A)).run P w=if stOk w b o n A=true then .ok () (w.setCells b o A.toList) else qfx P f w b o A:=by
 by_cases h:stOk w b o n A=true
 ·rw[if_pos h]
  obtain⟨g,i,l⟩:=q1u h
  exact run_storeAt_mid w b o f A g (by rw[m,i]) l
 ·rw[if_neg h]
  rfl
def qkl(C:Array Value)(o:Nat):List Value→Array Value
 | []=>C
 | v::r=>qkl (C.setIfInBounds o v) (o+1) r
theorem qa9{w:World}{b:Nat}{C:Array Value}{T:TypeId}{g:Nat × Nat}(h:w.heap[b]? = some (.cells C T g))(o:Nat)(f:List Value):(w.setCells b o f).heap[b]? = some (.cells (qkl C o f) T g):=by
 induction f generalizing w C o with
 | nil=>exact h
 | cons v r i=>exact i (zz h o v) (o+1)
theorem qqu(C:Array Value)(o:Nat)(f:List Value):(qkl C o f).size=C.size:=by
 induction f generalizing C o with
 | nil=>rfl
 | cons v r g=>rw[qkl,g,Array.size_setIfInBounds]
theorem qif(C:Array Value)(o:Nat)(f:List Value)(i:Nat)(h:o+f.length≤C.size):(qkl C o f)[i]? = if o≤i∧i<o+f.length then f[i-o]? else C[i]? := by
 induction f generalizing C o with
 | nil=>simp[qkl];intro g l;omega
 | cons v r m =>
  rw[qkl,m _ _ (by simp only[List.length_cons] at h;rw[Array.size_setIfInBounds];omega)]
  simp only[List.length_cons] at h ⊢
  by_cases g:o+1≤i∧i<o+1+r.length
  ·rw[if_pos g,if_pos (by omega)]
   obtain⟨k,rfl⟩:∃k,i=o+1+k:=⟨i-(o+1),by omega⟩
   rw[show o+1+k-(o+1)=k by omega,show o+1+k-o=k+1 by omega,List.getElem?_cons_succ]
  ·rw[if_neg g,Array.getElem?_setIfInBounds]
   by_cases l:o=i
   ·subst l
    rw[if_pos rfl,if_pos (by omega),if_pos (by omega)]
    simp
   ·rw[if_neg l,if_neg (by omega)]
theorem Upd.setCells{w w':World}{b:Nat}(h:Upd (· = b) w w')(o:Nat)(f:List Value):Upd (· = b) w (w'.setCells b o f):=by
 induction f generalizing w' o with
 | nil=>exact h
 | cons v r g=>exact g (h.set1 o v) (o+1)
theorem zq(w:World)(b o n:Nat):zx w.drew b o n=zx w b o n:=rfl
section
variable {P:Program}{ops:Array Oper}{rest:List Oper}{o:Oper}{a:Act}{w w':World}{Q:Exit→Act→World→Prop}
theorem zc{v:Value}(g:o.guard=none)(h:(execOp a.eval o).run P w = .ok (.value v) w')(k:wpList P ops Q rest (a.put o.dst v) w'):wpList P ops Q (o::rest) a w :=
 wpList_plain g fun K f=>by
  unfold Oper.wp
  rw[h]
  exact f _ _ k
theorem qdr{f:FuncId}{args:Array Value}(m:o.guard=none)(h:(execOp a.eval o).run P w = .ok (.enter f args) w')
  (k:Calls P f args w' fun e g=>∃v,e = .returned v∧wpList P ops Q rest (a.put o.dst v) g):wpList P ops Q (o::rest) a w :=
 wpList_plain m fun K i=>by
  unfold Oper.wp
  rw[h]
  simp only[Oper.upon]
  refine k.mono fun e g l=> ?_
  obtain⟨v,rfl,q⟩:=l
  exact i _ _ q
end
theorem Upd.setRow{S:Nat→Prop}{a w:World}(h:Upd S a w){g:Nat}(m:g<a.heap.size→S g)(cs:Array Value):Upd S a (w.setRow g cs) :=
 ⟨h.os,h.tape,h.output,by simpa using h.size,fun i f l=>by
  rw[setRow_other _ _ _ _ (show i≠g from fun e=>l (e▸m (e▸f)))]
  exact h.block i f l⟩
theorem qw8(A P Z R:List Value)(h:Z.length=A.length):(A.zipIdx).foldl (fun(cs:Array Value) (c,j)=>cs.setIfInBounds (P.length+j) c) (P++(Z++R)).toArray=(P++(A++R)).toArray:=by
 have key:∀(A:List Value) (k:Nat) (Q Z:List Value),Z.length=A.length→Q.length=P.length+k→(A.zipIdx k).foldl (fun(cs:Array Value) (c,j)=>cs.setIfInBounds (P.length+j) c) (Q++(Z++R)).toArray=(Q++(A++R)).toArray:=by
  intro A
  induction A with
  | nil=>intro k Q Z f _;rw[List.length_eq_zero_iff.1 f];rfl
  | cons a A i =>
   intro k Q Z f g
   cases Z with
   | nil=>simp at f
   | cons z Z =>
    rw[List.zipIdx_cons,List.foldl_cons]
    have e:(Q++(z::Z++R)).toArray.setIfInBounds (P.length+k) a=((Q++[a])++(Z++R)).toArray:=by
     rw[←g];simp
    show List.foldl _ ((Q++(z::Z++R)).toArray.setIfInBounds (P.length+k) a) _=_
    rw[e,i (k+1) (Q++[a]) Z (by simpa using f) (by simp[g];omega)]
    simp
 exact key A 0 P Z h rfl
theorem qb3{P:Program}{t:TypeId}{it:TypeInfo}{z:Value}{g:Array Field}{places:List (Nat × Nat)}(m:P.info? t=some it)(q:P.underlying t=some (.struct g))(v:it.zero=some z)
  (o:g.toList.mapM (fun f=>(P.info? f.type).map fun i=>(f.offset,i.size))=some places) (l:List (Nat × Value)):P.built t l=Instr.fill (places.toArray[·]?) z.cells l:=by
 unfold Program.built
 rw[m,q]
 simp only[v,o]
theorem qdy{P:Program}{t:TypeId}{l:List Value}(h:((P.info? t).map fun i=>i.zero.map fun z=>z.cells.toList)=some (some l)):∃i z,P.info? t=some i∧i.zero=some z∧z.cells=l.toArray:=by
 cases g:P.info? t with
 | none=>rw[g] at h;simp at h
 | some i =>
  rw[g,Option.map_some,Option.some.injEq] at h
  cases f:i.zero with
  | none=>rw[f] at h;simp at h
  | some z =>
   rw[f,Option.map_some,Option.some.injEq] at h
   exact⟨i,z,rfl,f,by rw[←h]⟩
theorem qer{f:Nat→Option (Nat × Nat)}{i off:Nat}{A P Z R:List Value}{cs:Array Value}(q:f i=some (off,A.length))(o:P.length=off)(l:Z.length=A.length)(m:cs=(P++(Z++R)).toArray)(rest:List (Nat × Value)) :
  Instr.fill f cs ((i,.agg A.toArray)::rest)=Instr.fill f (P++(A++R)).toArray rest:=by
 subst m o
 rw[Instr.fill,q]
 have t:¬(A.toArray.size≠A.length || P.length+A.toArray.size>(P++(Z++R)).toArray.size)=true:=by
  simp[l]
 have g:((Value.agg A.toArray).cells.size≠A.length || P.length+(Value.agg A.toArray).cells.size>(P++(Z++R)).toArray.size)=false:=by
  simpa [Value.cells] using t
 simp only[g,Bool.false_eq_true,if_false]
 congr 1
 have:=qw8 A P Z R l
 simpa [Value.cells] using this
structure SetupV where
 ch:Int
 cap:Int
 ours:Int
 seed:List Int
 key:ByteArray
 peer:ByteArray
def SetupV.cells(s:SetupV):List Value:= .int .u32 s.ch :: .int .u64 s.cap :: .int .u64 s.ours::(s.seed.map (Value.int .u8)++[.string s.key,.string s.peer])
structure SetupV.Ok(s:SetupV):Prop where
 ch:0≤s.ch∧s.ch<4294967296
 cap:0≤s.cap∧s.cap<18446744073709551616
 ours:0≤s.ours∧s.ours<18446744073709551616
 seed:s.seed.length=32
theorem SetupV.len(s:SetupV)(h:s.seed.length=32):s.cells.length=37:=by simp[SetupV.cells,h]
structure KeptV where
 full:Bool
 number:Int
 told:List Int
def KeptV.cells(k:KeptV):List Value:= .bool k.full :: .int .i64 k.number::k.told.map (Value.int .u8)
def KeptV.zero:KeptV:=⟨false,0,List.replicate 32 0⟩
structure CountsV where
 signed:Int
 heard:Int
 awaits:Bool
 nextOwn:Int
 nextTheirs:Int
 shutSaid:Bool
 shutHeard:Bool
 revoked:Bool
def CountsV.cells(k:CountsV):List Value:=[.int .i64 k.signed,.int .i64 k.heard,.bool k.awaits,.int .u64 k.nextOwn,.int .u64 k.nextTheirs,.bool k.shutSaid,.bool k.shutHeard,.bool k.revoked]
def CountsV.zero:CountsV:=⟨0,0,false,0,0,false,false,false⟩
structure ChanV where
 setup:SetupV
 k:CountsV
 loc:Int
 rem:Int
 live:Value
 shelf:List KeptV
 news:Value
 last:Value
def ChanV.told(c:ChanV):List Value:=c.shelf.flatMap KeptV.cells
def ChanV.rest(c:ChanV):List Value:= .int .u64 c.loc :: .int .u64 c.rem::c.live::(c.told++[c.news,c.last])
def ChanV.cells(c:ChanV):List Value:=c.setup.cells++(c.k.cells++c.rest)
def qbt:Value:= .slice none 0 0
def ChanV.new(s:SetupV):ChanV:=⟨s,.zero,s.ours,s.cap-s.ours,qbt,List.replicate 17 .zero,qbt,qbt⟩
structure ChR(w:World)(g:Nat)(c:ChanV):Prop where
 at_:w.heap[g]? = some (.cells c.cells.toArray 92 (0,0))
 seed:c.setup.seed.length=32
theorem ChR.lt{w:World}{g:Nat}{c:ChanV}(h:ChR w g c):g<w.heap.size:=zw h.at_
theorem ChR.upd{S:Nat→Prop}{w w':World}{g:Nat}{c:ChanV}(h:ChR w g c)(u:Upd S w w')(f:¬S g):ChR w' g c:=⟨u.old h.at_ f,h.seed⟩
theorem ChR.new{w w':World}{g:Nat}{c:ChanV}(h:ChR w g c)(u:qy w w'):ChR w' g c:=h.upd u (fun h=>h)
theorem ChR.free{w:World}{g:Nat}{c:ChanV}(h:ChR w g c)(i:Nat):w.frozen? ⟨g,i,none⟩=false:=qq h.at_ i
theorem ChR.cell{w:World}{g:Nat}{c:ChanV}(h:ChR w g c)(i:Nat):w.cell? ⟨g,i,none⟩=c.cells[i]? := by
 rw[qh h.at_,List.getElem?_toArray]
theorem q3v(c:ChanV)(h:c.setup.seed.length=32)(i:Nat)(f:i<37):c.cells[i]? = c.setup.cells[i]? := by
 unfold ChanV.cells
 rw[List.getElem?_append_left (by rw[c.setup.len h];exact f)]
theorem qnh(c:ChanV)(h:c.setup.seed.length=32)(i:Nat):c.cells[37+i]? = (c.k.cells++c.rest)[i]? := by
 unfold ChanV.cells
 rw[List.getElem?_append_right (by rw[c.setup.len h];omega),c.setup.len h,Nat.add_sub_cancel_left]
theorem ChR.low{w:World}{g:Nat}{c:ChanV}(h:ChR w g c)(i:Nat)(f:i<37):w.cell? ⟨g,i,none⟩=c.setup.cells[i]? := (h.cell i).trans (q3v c h.seed i f)
theorem ChR.mid{w:World}{g:Nat}{c:ChanV}(h:ChR w g c)(i:Nat):w.cell? ⟨g,37+i,none⟩=(c.k.cells++c.rest)[i]? := (h.cell _).trans (qnh c h.seed i)
section
variable {w:World}{g:Nat}{c:ChanV}(h:ChR w g c)
include h
theorem ChR.ch:w.cell? ⟨g,0,none⟩=some (.int .u32 c.setup.ch):=h.low 0 (by omega)
theorem ChR.cap:w.cell? ⟨g,1,none⟩=some (.int .u64 c.setup.cap):=h.low 1 (by omega)
theorem ChR.signed:w.cell? ⟨g,37,none⟩=some (.int .i64 c.k.signed):=h.mid 0
theorem ChR.heard:w.cell? ⟨g,38,none⟩=some (.int .i64 c.k.heard):=h.mid 1
theorem ChR.awaits:w.cell? ⟨g,39,none⟩=some (.bool c.k.awaits):=h.mid 2
theorem ChR.nextOwn:w.cell? ⟨g,40,none⟩=some (.int .u64 c.k.nextOwn):=h.mid 3
theorem ChR.nextTheirs:w.cell? ⟨g,41,none⟩=some (.int .u64 c.k.nextTheirs):=h.mid 4
theorem ChR.shutSaid:w.cell? ⟨g,42,none⟩=some (.bool c.k.shutSaid):=h.mid 5
theorem ChR.shutHeard:w.cell? ⟨g,43,none⟩=some (.bool c.k.shutHeard):=h.mid 6
theorem ChR.revoked:w.cell? ⟨g,44,none⟩=some (.bool c.k.revoked):=h.mid 7
theorem ChR.loc:w.cell? ⟨g,45,none⟩=some (.int .u64 c.loc):=h.mid 8
theorem ChR.rem:w.cell? ⟨g,46,none⟩=some (.int .u64 c.rem):=h.mid 9
theorem ChR.live:w.cell? ⟨g,47,none⟩=some c.live:=h.mid 10
end
def qrz:List Value:=qbt::((List.replicate 17 KeptV.zero).flatMap KeptV.cells++[qbt,qbt])
def qv3:List Value:= .int .u32 0 :: .int .u64 0 :: .int .u64 0::((List.replicate 32 0).map (Value.int .u8)++[.string ⟨#[]⟩,.string ⟨#[]⟩])
theorem Tryz.zeroChan:((Tryz.prog.info? 92).map fun i=>i.zero.map fun z=>z.cells.toList)=some (some (qv3++(CountsV.zero.cells++([.int .u64 0,.int .u64 0]++qrz)))):=by kernel_rfl
theorem Tryz.placesChan:∃l,Tryz.prog.underlying 92=some (.struct l)∧l.toList.mapM (fun f=>(Tryz.prog.info? f.type).map fun i=>(f.offset,i.size))=some [(0,37),(37,8),(45,2),(47,1),(48,578),(626,1),(627,1)]:=⟨_,Tryz.underlying92,by kernel_rfl⟩
theorem qzp(S:List Value)(a b:Value)(f:S.length=37):Tryz.prog.built 92 [(0,.agg S.toArray),(2,.agg [a,b].toArray)]=some (S++(CountsV.zero.cells++([a,b]++qrz))).toArray:=by
 obtain⟨i,z,m,t,l⟩:=qdy Tryz.zeroChan
 obtain⟨v,q,o⟩:=Tryz.placesChan
 rw[qb3 m q t o]
 rw[qer (P:=[]) (A:=S) (Z:=qv3) (R:=CountsV.zero.cells++([.int .u64 0,.int .u64 0]++qrz)) (off:=0) (by rw[f];rfl) rfl (by rw[f];rfl) l]
 rw[qer (P:=S++CountsV.zero.cells) (A:=[a,b]) (Z:=[.int .u64 0,.int .u64 0]) (R:=qrz) (off:=45) (by rfl) (by rw[List.length_append,f];rfl) rfl (by simp)]
 rw[Instr.fill]
 simp
def q6x(p:Array (Nat × Value)):Sem Value:=Instr.build 92 p
theorem qug(p:Array (Nat × Value)):Instr.build 92 p=q6x p:=rfl
theorem zar(s:SetupV)(f:s.seed.length=32)(a b:Value)(w:World):(q6x #[(0,.agg s.cells.toArray),(2,.agg #[a,b])]).run Tryz.prog w = .ok (.agg (s.cells++(CountsV.zero.cells++([a,b]++qrz))).toArray) w :=
 run_build w _ _ _ (qzp s.cells a b (s.len f))
theorem Tryz.infoSetup:(Tryz.prog.info? 57).map (·.size)=some 37:=by kernel_rfl
def q2v(x:Value):Sem Value:=Instr.loadAt 57 x
theorem qh3(x:Value):Instr.loadAt 57 x=q2v x:=rfl
theorem qqx(b o:Nat)(w:World):(q2v (.pointer (some ⟨b,o,none⟩))).run Tryz.prog w=match zx w b o 37 with | some A=> .ok (.agg A) w | none=>qdw Tryz.prog 57 w b o :=
 zy 57 37 _ Tryz.underlying57 rfl Tryz.infoSetup b o w
def qlj(w:World)(b:Nat)(s:SetupV):Prop:=w.heap[b]? = some (.cells s.cells.toArray 57 (0,0))
theorem qlj.upd{S:Nat→Prop}{w w':World}{g:Nat}{s:SetupV}(h:qlj w g s)(u:Upd S w w')(f:¬S g):qlj w' g s:=u.old h f
theorem qlj.new{w w':World}{g:Nat}{s:SetupV}(h:qlj w g s)(u:qy w w'):qlj w' g s:=h.upd u (fun h=>h)
theorem qlj.lt{w:World}{g:Nat}{s:SetupV}(h:qlj w g s):g<w.heap.size:=zw h
theorem qlj.drew{w:World}{g:Nat}{s:SetupV}(h:qlj w g s):qlj w.drew g s:=h
theorem qlj.row{w:World}{b:Nat}{s:SetupV}(h:qlj w b s)(f:s.seed.length=32):zx w b 0 37=some s.cells.toArray:=by
 rw[qca h 0 37 (by simp[s.len f])]
 congr 1
 apply Array.ext'
 rw[Array.toList_extract]
 show List.take 37 (List.drop 0 s.cells)=s.cells
 rw[List.drop_zero,List.take_of_length_le (by rw[s.len f];exact Nat.le_refl _)]
theorem qlj.cell{w:World}{b:Nat}{s:SetupV}(h:qlj w b s)(i:Nat):w.cell? ⟨b,i,none⟩=s.cells[i]? := by rw[qh h,List.getElem?_toArray]
theorem SetupV.c35(s:SetupV)(h:s.seed.length=32):s.cells[35]? = some (.string s.key):=by
 unfold SetupV.cells
 rw[List.getElem?_cons_succ,List.getElem?_cons_succ,List.getElem?_cons_succ,List.getElem?_append_right (by simp[h])]
 simp[h]
theorem SetupV.c36(s:SetupV)(h:s.seed.length=32):s.cells[36]? = some (.string s.peer):=by
 unfold SetupV.cells
 rw[List.getElem?_cons_succ,List.getElem?_cons_succ,List.getElem?_cons_succ,List.getElem?_append_right (by simp[h])]
 simp[h]
attribute [local go_sem ↓ high] qh3 qug
attribute [local go_sem] qqx
def SetupV.may(s:SetupV):Prop:=1≤s.cap∧s.cap≤1125899906842624∧s.ours≤s.cap∧s.key.size≤64∧s.peer.size≤64
theorem q48(s:SetupV):s.cells++(CountsV.zero.cells++([.int .u64 s.ours,.int .u64 (s.cap-s.ours)]++qrz))=(ChanV.new s).cells:=by
 unfold ChanV.new ChanV.cells ChanV.rest ChanV.told qrz
 simp
set_option maxRecDepth 100000 in
set_option maxHeartbeats 1000000 in
theorem qmr(s:SetupV)(l:s.Ok)(w:World):Calls Tryz.prog 22 #[.agg s.cells.toArray] w fun e w' =>
  (s.may∧∃g,e = .returned (.pointer (some ⟨g,0,none⟩))∧w.heap.size≤g∧ChR w' g (.new s)∧qy w w')∨(¬s.may∧e = .returned (.pointer none)∧qy w w'):=by
 go_enter Tryz.func22,Tryz.ntmps22
 go_upto_region 1 with fail
 have i:qlj (w.alloc (.cells s.cells.toArray 57)) w.heap.size s:=qi _ _
 have f:qy w (w.alloc (.cells s.cells.toArray 57)):=(Upd.refl _ _).alloc _
 generalize w.alloc (.cells s.cells.toArray 57)=w1 at i f ⊢
 have y:=i.lt
 have t:=i.row l.seed
 have D:w1.cell? ⟨w.heap.size,1,none⟩=some (.int .u64 s.cap):=i.cell 1
 have E:w1.cell? ⟨w.heap.size,2,none⟩=some (.int .u64 s.ours):=i.cell 2
 have v:w1.cell? ⟨w.heap.size,35,none⟩=some (.string s.key):=(i.cell 35).trans (s.c35 l.seed)
 have x:w1.cell? ⟨w.heap.size,36,none⟩=some (.string s.peer):=(i.cell 36).trans (s.c36 l.seed)
 obtain⟨a0,a1⟩:=l.cap
 obtain⟨b0,b1⟩:=l.ours
 have q:=zar s l.seed (.int .u64 s.ours) (.int .u64 (s.cap-s.ours))
 rw[q48] at q
 by_cases F:s.cap<1
 ·go_wp2
  go_ret
  exact .inr ⟨(fun h=>by have:=h.1;omega),rfl,f⟩
 by_cases H:1125899906842624<s.cap
 ·go_wp2
  go_ret
  exact .inr ⟨(fun h=>by have:=h.2.1;omega),rfl,f⟩
 by_cases I:s.cap<s.ours
 ·go_wp2
  go_ret
  exact .inr ⟨(fun h=>by have:=h.2.2.1;omega),rfl,f⟩
 by_cases J:64<s.key.size
 ·have m:64<(s.key.size:Int):=by omega
  go_wp2
  go_ret
  exact .inr ⟨(fun h=>by have:=h.2.2.2.1;omega),rfl,f⟩
 by_cases K:64<s.peer.size
 ·have m:¬64<(s.key.size:Int):=by omega
  have o:64<(s.peer.size:Int):=by omega
  go_wp2
  go_ret
  exact .inr ⟨(fun h=>by have:=h.2.2.2.2;omega),rfl,f⟩
 ·have m:¬64<(s.key.size:Int):=by omega
  have o:¬64<(s.peer.size:Int):=by omega
  have L:IntKind.u64.wrap (s.cap-s.ours)=s.cap-s.ours:=by rw[IntKind.wrap_u64];omega
  go_wp2
  go_ret
  have z:s.may:=⟨by omega,by omega,by omega,by omega,by omega⟩
  have C:qy w (w1.alloc (.cells (ChanV.new s).cells.toArray 92)):=f.alloc _
  exact .inl ⟨z,w1.heap.size,rfl,f.size,⟨qi _ _,l.seed⟩,C⟩
end Go.Proofs.YtjpmomdechibmaaGreatDoor
namespace Go.Proofs.YtjpmomdechibmaaGreatDoor
open Go.RowKit
structure Htlc where
 id:Int
 amount:Int
 hash:Vector Int 32
 expiry:Int
structure Live where
 h:Htlc
 own:Bool
 state:Int
 paid:Bool
structure Item where
 offered:Bool
 h:Htlc
def q9(h:Htlc):List Value:= .int .u64 h.id :: .int .u64 h.amount::(h.hash.toList.map (Value.int .u8)++[.int .i64 h.expiry])
def qm(x:Live):List Value:=q9 x.h++[.bool x.own,.int .i64 x.state,.bool x.paid]
def zi(x:Item):List Value:= .bool x.offered::q9 x.h
structure HtlcOk(h:Htlc):Prop where
 id:0≤h.id∧h.id≤18446744073709551615
 amount:0≤h.amount∧h.amount≤18446744073709551615
 hash:∀n∈h.hash.toList,0≤n∧n≤255
 expiry : -9223372036854775808≤h.expiry∧h.expiry≤9223372036854775807
structure LiveOk(x:Live):Prop where
 h:HtlcOk x.h
 state : -9223372036854775808≤x.state∧x.state≤9223372036854775807
theorem qbd(h:Htlc):(q9 h).length=35:=by simp[q9]
theorem qa0(x:Live):(qm x).length=38:=by simp[qm,qbd]
theorem qcg(x:Item):(zi x).length=36:=by simp[zi,qbd]
theorem q8k(x:Live):(qm x)[0]? = some (.int .u64 x.h.id):=rfl
theorem q0t(x:Live):(qm x)[1]? = some (.int .u64 x.h.amount):=rfl
theorem qhl(x:Live):(qm x)[35]? = some (.bool x.own):=by
 unfold qm;rw[List.getElem?_append_right (by rw[qbd];omega),qbd];rfl
theorem qfa(x:Live):(qm x)[36]? = some (.int .i64 x.state):=by
 unfold qm;rw[List.getElem?_append_right (by rw[qbd];omega),qbd];rfl
theorem qml(x:Live):(qm x)[37]? = some (.bool x.paid):=by
 unfold qm;rw[List.getElem?_append_right (by rw[qbd];omega),qbd];rfl
theorem qkk(h:Htlc):∀v∈q9 h,v.oneCell'=true:=by
 intro v f
 simp only[q9,List.mem_cons,List.mem_append,List.mem_map,List.not_mem_nil,or_false] at f
 rcases f with rfl | rfl | ⟨n,_,rfl⟩ | rfl<;>rfl
theorem qqp(x:Item):∀v∈zi x,v.oneCell'=true:=by
 intro v f
 rcases List.mem_cons.1 f with rfl | f
 ·rfl
 ·exact qkk _ v f
theorem Tryz.infoLive:(Tryz.prog.info? 81).map (·.size)=some 38:=by kernel_rfl
theorem Tryz.infoHtlc:(Tryz.prog.info? 79).map (·.size)=some 35:=by kernel_rfl
def q8g(x:Value):Sem Value:=Instr.loadAt 81 x
theorem qc6(x:Value):Instr.loadAt 81 x=q8g x:=rfl
theorem qhk(b o:Nat)(w:World):(q8g (.pointer (some ⟨b,o,none⟩))).run Tryz.prog w=match zx w b o 38 with | some A=> .ok (.agg A) w | none=>qdw Tryz.prog 81 w b o :=
 zy 81 38 _ Tryz.underlying81 rfl Tryz.infoLive b o w
def q8e(x:Value):Sem Value:=Instr.loadAt 79 x
theorem qva(x:Value):Instr.loadAt 79 x=q8e x:=rfl
theorem zbr(b o:Nat)(w:World):(q8e (.pointer (some ⟨b,o,none⟩))).run Tryz.prog w=match zx w b o 35 with | some A=> .ok (.agg A) w | none=>qdw Tryz.prog 79 w b o :=
 zy 79 35 _ Tryz.underlying79 rfl Tryz.infoHtlc b o w
def q9z(x v:Value):Sem Unit:=Instr.storeAt 81 x v
theorem qdx(x v:Value):Instr.storeAt 81 x v=q9z x v:=rfl
theorem qjw(b o:Nat)(A:Array Value)(w:World):(q9z (.pointer (some ⟨b,o,none⟩)) (.agg A)).run Tryz.prog w=if stOk w b o 38 A=true then .ok () (w.setCells b o A.toList) else qfx Tryz.prog 81 w b o A :=
 qay 81 38 Tryz.infoLive b o A w
def qgd(w:World)(g off:Nat)(xs:List Live):Prop :=
 ∃C T f,w.heap[g]? = some (.cells C T f)∧off+xs.length*38≤C.size∧∀i x,xs[i]? = some x→∀j,j<38→C[off+i*38+j]? = (qm x)[j]?
theorem qgd.row{w:World}{g off:Nat}{xs:List Live}(h:qgd w g off xs){i:Nat}{x:Live}(m:xs[i]? = some x):zx w g (off+i*38) 38=some (qm x).toArray:=by
 obtain⟨C,T,v,o,y,q⟩:=h
 have l:i<xs.length:=(List.getElem?_eq_some_iff.1 m).1
 have f:off+i*38+38≤C.size:=by have:=Nat.mul_le_mul_right 38 (show i+1≤xs.length from l);omega
 rw[qca o _ _ f]
 congr 1
 apply Array.ext'
 apply List.ext_getElem?
 intro j
 rw[Array.getElem?_toList,Array.getElem?_extract]
 by_cases t:j<38
 ·rw[if_pos (by omega),q i x m j t]
 ·rw[if_neg (by omega),List.getElem?_eq_none (by rw[qa0];omega)]
theorem qgd.upd{S:Nat→Prop}{w w':World}{b off:Nat}{xs:List Live}(h:qgd w b off xs)(u:Upd S w w')(i:¬S b):qgd w' b off xs:=by
 obtain⟨C,T,f,g,r⟩:=h
 exact⟨C,T,f,u.old g i,r⟩
theorem qgd.lt{w:World}{g off:Nat}{xs:List Live}(h:qgd w g off xs):g<w.heap.size:=by
 obtain⟨C,T,i,f,r⟩:=h
 exact zw f
def qh6(w:World)(v:Value)(xs:List Live):Prop:=(∃a c,v = .slice a 0 c∧xs=[])∨∃g off cap,v = .slice (some ⟨g,off,none⟩) xs.length cap∧qgd w g off xs
theorem qh6.new{w w':World}{v:Value}{xs:List Live}(h:qh6 w v xs)(u:qy w w'):qh6 w' v xs:=by
 rcases h with h | ⟨g,off,cap,e,h⟩
 ·exact .inl h
 ·exact .inr ⟨g,off,cap,e,h.upd u (fun h=>h)⟩
def qj7(base:Nat)(w:World)(v:Value)(xs:List Live):Prop:=(∃a c,v = .slice a 0 c∧xs=[])∨∃g off cap,v = .slice (some ⟨g,off,none⟩) xs.length cap∧base≤g∧qgd w g off xs
theorem qj7.to{base:Nat}{w:World}{v:Value}{xs:List Live}(h:qj7 base w v xs):qh6 w v xs:=by
 rcases h with h | ⟨g,off,cap,e,_,h⟩
 ·exact .inl h
 ·exact .inr ⟨g,off,cap,e,h⟩
theorem qj7.new{base:Nat}{w w':World}{v:Value}{xs:List Live}(h:qj7 base w v xs)(u:qy w w'):qj7 base w' v xs:=by
 rcases h with h | ⟨g,off,cap,e,f,h⟩
 ·exact .inl h
 ·exact .inr ⟨g,off,cap,e,f,h.upd u (fun h=>h)⟩
theorem qj7.row{base:Nat}{w:World}{v:Value}{xs:List Live}(h:qj7 base w v xs):∃a cap,v = .slice a xs.length cap∧∀(i:Nat) (x:Live),xs[i]? = some x→∃g off,a=some ⟨g,off,none⟩∧base≤g∧qgd w g off xs:=by
 rcases h with ⟨a,c,e,rfl⟩ | ⟨g,off,cap,e,f,l⟩
 ·exact⟨a,c,e,fun i x m=>by simp at m⟩
 ·exact⟨_,cap,e,fun i x _=>⟨g,off,rfl,f,l⟩⟩
theorem qc5(Z:Array Value)(C:List Value)(h:Z.size=C.length):qkl Z 0 C=C.toArray:=by
 apply Array.ext'
 apply List.ext_getElem?
 intro j
 rw[Array.getElem?_toList,qif _ _ _ _ (by omega)]
 by_cases g:j<C.length
 ·rw[if_pos (by omega)];simp
 ·have f:Z[j]? = none:=Array.getElem?_eq_none (by omega)
  rw[if_neg (by omega),f]
  exact(List.getElem?_eq_none (by simp;omega)).symm
theorem qmk(w:World)(Z:Array Value)(T:TypeId)(C:List Value)(f:Z.size=C.length) :
  ((w.alloc (.cells Z T)).setCells w.heap.size 0 C).heap[w.heap.size]? = some (.cells C.toArray T (0,0))∧qy w ((w.alloc (.cells Z T)).setCells w.heap.size 0 C):=by
 constructor
 ·rw[qa9 (qi w (.cells Z T)) 0 C,qc5 Z C f]
 ·exact(((Upd.refl (· = w.heap.size) w).alloc _).setCells 0 C).mono (fun i g e=>by omega)
theorem qd9(x:Live):∀v∈qm x,v.oneCell'=true:=by
 intro v f
 simp only[qm,List.mem_append,List.mem_cons,List.not_mem_nil,or_false] at f
 rcases f with f | rfl | rfl | rfl
 ·exact qkk _ v f
 ·rfl
 ·rfl
 ·rfl
theorem qyc{w w':World}{base:Nat}{e:TypeId}{size:Nat}{v:Value}{n:Nat}{xs:List Value}(h:w.ownsRow base e size v n xs)(u:qy w w'):w'.ownsRow base e size v n xs:=by
 refine⟨h.1,?_⟩
 rcases h.2 with h | ⟨g,cap,f,i,l,m,r⟩
 ·exact .inl h
 ·exact .inr ⟨g,cap,f,i,l,u.old m (fun h=>h),r⟩
theorem qnt{w:World}{base:Nat}{e:TypeId}{size:Nat}{v:Value}{n:Nat}{xs:List Value}(h:w.ownsRow base e size v n xs):∃a k c,v = .slice a k c:=by
 rcases h.2 with ⟨rfl,_⟩ | ⟨g,cap,f,rfl,_⟩
 ·exact⟨_,_,_,rfl⟩
 ·exact⟨_,_,_,rfl⟩
theorem qmu{S:Nat→Prop}{w w':World}{base:Nat}{e:TypeId}{size:Nat}{v:Value}{n:Nat}{xs:List Value}(h:w.ownsRow base e size v n xs)(u:Upd S w w')(m:∀k,base≤k→¬S k):w'.ownsRow base e size v n xs:=by
 refine⟨h.1,?_⟩
 rcases h.2 with h | ⟨g,cap,f,l,i,o,r⟩
 ·exact .inl h
 ·exact .inr ⟨g,cap,f,l,i,u.old o (m g i),r⟩
theorem qnj(X:List Live):(X.flatMap qm).length=X.length*38:=by
 induction X with
 | nil=>rfl
 | cons x X f=>rw[List.flatMap_cons,List.length_append,f,qa0,List.length_cons];omega
theorem qst:∀(X:List Live) (i j:Nat) (x:Live),X[i]? = some x→j<38→(X.flatMap qm)[i*38+j]? = (qm x)[j]? := by
 intro X
 induction X with
 | nil=>intro i j x h;simp at h
 | cons y X l =>
  intro i j x f g
  rw[List.flatMap_cons]
  cases i with
  | zero =>
   simp only[List.getElem?_cons_zero,Option.some.injEq] at f
   subst f
   rw[List.getElem?_append_left (by rw[qa0];omega),Nat.zero_mul,Nat.zero_add]
  | succ i =>
   rw[List.getElem?_append_right (by rw[qa0];omega),qa0,show (i+1)*38+j-38=i*38+j by omega]
   exact l i j x (by simpa using f) g
theorem q4d(X:List Live):∀u∈X.flatMap qm,u.oneCell'=true:=by
 intro u f
 obtain⟨x,_,g⟩:=List.mem_flatMap.1 f
 exact qd9 x u g
def qfj(w:World)(g off:Nat)(xs:List Live):Prop :=
 ∃C T,w.heap[g]? = some (.cells C T (0,0))∧off+xs.length*38≤C.size∧∀i x,xs[i]? = some x→∀j,j<38→C[off+i*38+j]? = (qm x)[j]?
theorem qfj.toL{w:World}{g off:Nat}{xs:List Live}(h:qfj w g off xs):qgd w g off xs:=by
 obtain⟨C,T,f,r⟩:=h
 exact⟨C,T,_,f,r⟩
theorem qfj.row{w:World}{g off:Nat}{xs:List Live}(h:qfj w g off xs){i:Nat}{x:Live}(f:xs[i]? = some x):zx w g (off+i*38) 38=some (qm x).toArray:=h.toL.row f
theorem qfj.upd{S:Nat→Prop}{w w':World}{b off:Nat}{xs:List Live}(h:qfj w b off xs)(u:Upd S w w')(g:¬S b):qfj w' b off xs:=by
 obtain⟨C,T,f,r⟩:=h
 exact⟨C,T,u.old f g,r⟩
theorem qgd.cells{w:World}{g off:Nat}{X:List Live}(h:qgd w g off X):∀j u,(X.flatMap qm)[j]? = some u→w.cell? ((⟨g,off,none⟩:Addr).add j)=some u:=by
 intro j u m
 obtain⟨C,T,y,q,D,t⟩:=h
 have z:j<X.length*38:=by
  have:=(List.getElem?_eq_some_iff.1 m).1
  rwa [qnj] at this
 have f:(⟨g,off,none⟩:Addr).add j=⟨g,off+j,none⟩:=by unfold Addr.add;split<;>simp_all
 rw[f,qh q]
 have v:j / 38<X.length:=Nat.div_lt_of_lt_mul (by omega)
 obtain⟨x,o⟩:∃x,X[j / 38]? = some x:=⟨_,List.getElem?_eq_getElem v⟩
 have e:=Nat.div_add_mod j 38
 have l:=Nat.mod_lt j (show 0<38 by decide)
 rw[←m,show off+j=off+j / 38*38+j%38 by omega,t _ x o _ l]
 have i:=qst X _ _ x o l
 rw[show j / 38*38+j%38=j by omega] at i
 exact i.symm
theorem qdc{w:World}{base:Nat}{v:Value}{n:Nat}{X:List Live}(h:w.ownsRow base 81 38 v n (X.flatMap qm)) :
  n=X.length∧((v = .slice none 0 0∧X=[])∨∃g cap,v = .slice (some ⟨g,0,none⟩) X.length cap∧base≤g∧qfj w g 0 X):=by
 have o:n=X.length:=by have:=h.1;rw[qnj] at this;omega
 refine⟨o,?_⟩
 subst o
 rcases h.2 with ⟨e,q⟩ | ⟨g,cap,f,e,t,z,y,_,E,D⟩
 ·exact .inl ⟨e,List.length_eq_zero_iff.1 q⟩
 ·refine .inr ⟨g,cap,e,t,f,_,z,by have:=Nat.mul_le_mul_right 38 y;omega,fun i x m j C=> ?_⟩
  have l:=(List.getElem?_eq_some_iff.1 m).1
  rw[Nat.zero_add,←qst X i j x m C,←D,List.getElem?_take,if_pos (by have:=Nat.mul_le_mul_right 38 (show i+1≤X.length from l);omega),Array.getElem?_toList]
theorem Tryz.infoLiveB:(Tryz.prog.info? 81).map (fun i=>(i.size,i.bytes,i.zero.map (·.cells.size)))=some (38,80,some 38):=by kernel_rfl
theorem q42:∃i z,Tryz.prog.info? 81=some i∧i.zero=some z∧i.size=38∧i.bytes=80∧z.cells.size=38:=by
 have h:=Tryz.infoLiveB
 cases l:Tryz.prog.info? 81 with
 | none=>rw[l] at h;simp at h
 | some i =>
  rw[l] at h
  simp only[Option.map_some,Option.some.injEq,Prod.mk.injEq] at h
  obtain⟨m,o,f⟩:=h
  cases g:i.zero with
  | none=>rw[g] at f;simp at f
  | some z=>rw[g] at f;simp at f;exact⟨i,z,rfl,g,m,o,f⟩
set_option maxRecDepth 100000 in
set_option maxHeartbeats 1000000 in
theorem qsp(v:Value)(xs:List Live)(R:xs.length≤1048576)(w:World)(I:qh6 w v xs) :
  Calls Tryz.prog 43 #[v] w fun e w'=>∃u,e = .returned u∧qy w w'∧((∃a c,u = .slice a 0 c∧xs=[])∨∃g cap,u = .slice (some ⟨g,0,none⟩) xs.length cap∧w.heap.size≤g∧qfj w' g 0 xs):=by
 have t:(∃c,v = .slice none 0 c∧xs=[])∨∃(a:Addr) (cap:Nat),v = .slice (some a) xs.length cap∧∀j u,(xs.flatMap qm)[j]? = some u→w.cell? (a.add j)=some u:=by
  rcases I with ⟨a,c,rfl,rfl⟩ | ⟨g,off,cap,rfl,o⟩
  ·cases a with
   | none=>exact .inl ⟨_,rfl,rfl⟩
   | some a=>exact .inr ⟨a,c,rfl,by simp⟩
  ·exact .inr ⟨_,cap,rfl,o.cells⟩
 rcases t with ⟨c,rfl,rfl⟩ | ⟨a,cap,rfl,o⟩
 ·go_enter Tryz.func43,Tryz.ntmps43
  have C:=fun(w:World)=>run_eql_slice_nil (P:=Tryz.prog) w 43 _ none 0 c Tryz.underlying43
  go_wp2
  first | go_ret2 | go_ret
  exact⟨_,rfl,Upd.refl _ _,.inl ⟨_,_,rfl,trivial⟩⟩
 ·obtain⟨K,V,F,J,x,y,z⟩:=q42
  have C:=fun(w:World)=>run_eql_slice_nil (P:=Tryz.prog) w 43 _ (some a) xs.length cap Tryz.underlying43
  simp only[Option.isNone_some] at C
  go_enter Tryz.func43,Tryz.ntmps43
  go_wp2_with (at_builtin;refine wpList_append_own _ rfl (.tmp 5) (.tmp 6) 43 rfl w.heap.size 81 K _ 38 80 Tryz.underlying43 F J x y z (by decide) _ 0 [] rfl (World.ownsRow_made (base:=w.heap.size) w #[] 0 (Nat.le_refl _) (by decide) rfl) a xs.length cap (xs.flatMap qm) rfl (qnj xs) ?c1 (q4d xs) ?c3 ?c4 ?c5 ?_)
  case c1 =>
   intro j u H
   exact((Upd.refl (fun _=>False) w).alloc _).cell (o j u H) (fun h=>h)
  case c3=>unfold maxLen;omega
  case c4=>omega
  case c5=>simp
  intro U M f i _
  have L:qy w M:=((Upd.refl _ w).alloc _).grown i (fun k h O=>by simp[Value.ownBlock] at h;omega)
  have l:=(qdc f).2
  obtain⟨N,T,c5,rfl⟩:=qnt f
  have D:=qb l
  clear l f i
  go_wp2
  first | go_ret2 | go_ret
  refine⟨_,rfl,L,?_⟩
  rcases qa D with h | ⟨g',m,e,E,q⟩
  ·exact .inl ⟨_,_,h.1,h.2⟩
  ·exact .inr ⟨g',m,e,E,q⟩
def Live.zero:Live:=⟨⟨0,0,Vector.replicate 32 0,0⟩,false,0,false⟩
def q6p:Sem Value:=Instr.alloc 81 true (.tuple #[])
theorem qgg:Instr.alloc 81 true (.tuple #[])=q6p:=rfl
theorem qo7(w:World):q6p.run Tryz.prog w = .ok (.pointer (some ⟨w.heap.size,0,none⟩)) (w.alloc (.cells (qm Live.zero).toArray 81)):=by kernel_rfl
theorem qfe{w:World}{b:Nat}{C:Array Value}{T:TypeId}(h:w.heap[b]? = some (.cells C T (0,0))){A:List Value}(g:A.length=C.size)(f:∀v∈A,v.oneCell'=true):stOk w b 0 C.size A.toArray=true :=
 qff h (by omega) (by simpa using g) (by rw[Array.all_eq_true_iff_forall_mem];intro v i;exact f v (by simpa using i))
theorem qnw(w:World)(x:Live):stOk (w.alloc (.cells (qm Live.zero).toArray 81)) w.heap.size 0 38 (qm x).toArray=true :=
 qfe (C:=(qm Live.zero).toArray) (qi _ _) (by rw[qa0];rfl) (qd9 x)
theorem qnn(w:World)(x:Live):((w.alloc (.cells (qm Live.zero).toArray 81)).setCells w.heap.size 0 (qm x)).heap[w.heap.size]? = some (.cells (qm x).toArray 81 (0,0))∧qy w ((w.alloc (.cells (qm Live.zero).toArray 81)).setCells w.heap.size 0 (qm x)) :=
 qmk w _ _ _ (by rw[qa0];rfl)
end Go.Proofs.YtjpmomdechibmaaGreatDoor
