/-
  The stable sort of less than twenty.
-/
import Derived.Test.YthnohmjbbeahmaaGreatDoorSo3
import Derived.Great.BuildSlice
set_option linter.unusedVariables false
set_option linter.unusedSimpArgs false
namespace Go.Proofs.YthnohmjbbeahmaaGreatDoor
open Go.RowKit Go.Sort
abbrev LI:=List (Item × Nat)
set_option maxRecDepth 100000 in
set_option maxHeartbeats 1600000 in
theorem q3i(g off cap N:Nat)(L:LI)(q:q0y L)(C:L.length=N)(I:N≤19)(w:World)(h:qdr w g off (its L)) :
  Calls Tryz.prog 100 #[.slice (some ⟨g,off,none⟩) N cap,.int .i64 (N:Int),q5z] w fun e w'=>e = .returned (.tuple #[])∧Upd (· = g) w w'∧∃M,M.Perm L∧Srt M∧qdr w' g off (its M):=by
 have H:=qb (qti g off cap [] [] L q N (by simp;omega) (by omega) 0 (N:Int) (by simp) (by simp;omega) w (by simpa using h))
 have i:¬(20:Int)≤(N:Int):=by omega
 have F:¬(20:Int)<(N:Int):=by omega
 clear C q h
 go_enter Tryz.func100,Tryz.ntmps100
 go_wp2_with fail
 go_loopw [7,8] (fun v z wr=>v = .int .i64 0∧z = .int .i64 20∧wr=w) (fun _ _ _=>0)
 case atStart=>exact⟨rfl,rfl,rfl⟩
 case round =>
  obtain⟨rfl,rfl,rfl⟩:=hrel;go_wp2_with fail;refine(qa H).mono ?_;rintro e w1 ⟨rfl,E,M,l,m,i⟩;have t:=qb (And.intro l (And.intro m i));obtain⟨o,rfl⟩:∃o:World,o=w1:=⟨_,rfl⟩;clear l m i H;go_wp2_with fail
  go_loopw [6] (fun D wr=>D = .int .i64 20∧wr=o) (fun _ _=>0)
  case atStart=>exact⟨rfl,rfl⟩
  case round =>
   obtain⟨rfl,rfl⟩:=hrel;go_wp2_with fail;go_end0;obtain⟨l,m,i⟩:=qa t;exact⟨rfl,E,M,l,m,by simpa using i⟩
theorem zd4(X:List Item):its X.zipIdx=X:=by simp[its]
theorem q21:∀(X:List Item) (k:Nat),q0y (X.zipIdx k):=by
 intro X
 induction X with
 | nil=>intro k;exact List.Pairwise.nil
 | cons x X i =>
  intro k;rw[List.zipIdx_cons];refine List.pairwise_cons.2 ⟨fun p g=> ?_,i _⟩;have:=List.le_snd_of_mem_zipIdx g;omega
theorem qll(g off cap N:Nat)(X:List Item)(q:X.length=N)(t:N≤19)(w:World)(h:qdr w g off X) :
  Calls Tryz.prog 77 #[.slice (some ⟨g,off,none⟩) N cap,q5z] w fun e w'=>e = .returned (.tuple #[])∧Upd (· = g) w w'∧∃M,M.Perm X.zipIdx∧Srt M∧qdr w' g off (its M):=by
 have H:=qb (q3i g off cap N X.zipIdx (q21 X 0) (by simpa using q) t w (by rw[zd4];exact h))
 go_enter Tryz.func77,Tryz.ntmps77
 go_wp2_with fail
 refine(qa H).mono ?_
 rintro e w1 ⟨rfl,v,M,l,m,o⟩
 have i:=qb (And.intro l m)
 clear l m
 go_wp2
 go_end0
 exact⟨rfl,v,M,(qa i).1,(qa i).2,o⟩
theorem q9v(X:List Item):(X.flatMap zf).length=X.length*36:=by
 induction X with
 | nil=>rfl
 | cons x X g=>rw[List.flatMap_cons,List.length_append,g,qco,List.length_cons];omega
theorem q9u:∀(X:List Item) (i j:Nat),i<X.length→j<36→(X.flatMap zf)[i*36+j]? = (zf X[i]!)[j]? := by
 intro X
 induction X with
 | nil=>intro i j h;simp at h
 | cons x X m =>
  intro i j g l;rw[List.flatMap_cons];cases i with
  | zero=>rw[List.getElem?_append_left (by rw[qco];omega),Nat.zero_mul,Nat.zero_add];rfl
  | succ i =>
   rw[List.getElem?_append_right (by rw[qco];omega),qco,show (i+1)*36+j-36=i*36+j by omega,m i j (by simpa using g) l];rfl
theorem qwg{w:World}{base:Nat}{v:Value}{n:Nat}{X:List Item}(h:w.ownsRow base 146 36 v n (X.flatMap zf)) :
  n=X.length∧((v = .slice none 0 0∧X=[])∨∃g cap,v = .slice (some ⟨g,0,none⟩) X.length cap∧base≤g∧qdr w g 0 X):=by
 have o:n=X.length:=by have:=h.1;rw[q9v] at this;omega
 refine⟨o,?_⟩
 subst o
 rcases h.2 with ⟨e,e0⟩ | ⟨g,cap,l,e,q,z,t,_,E,D⟩
 ·exact .inl ⟨e,List.length_eq_zero_iff.1 e0⟩
 ·refine .inr ⟨g,cap,e,q,l,_,z,by have:=Nat.mul_le_mul_right 36 t;omega,fun i m j C=> ?_⟩;rw[Nat.zero_add,←q9u X i j m C,←D,List.getElem?_take,if_pos (by have:=Nat.mul_le_mul_right 36 (show i+1≤X.length from m);omega),Array.getElem?_toList]
set_option maxRecDepth 100000 in
theorem qrw(w:World):Calls Tryz.prog 116 #[.slice none 0 0,.int .i64 0,.int .i64 0,q5z] w (qce (.tuple #[]) w):=by
 go_enter Tryz.func116,Tryz.ntmps116;go_wp2_with fail
 go_loopw [8] (fun g wr=>g = .int .i64 1∧wr=w) (fun _ _=>0)
 case atStart=>exact⟨rfl,rfl⟩
 case round =>
  obtain⟨rfl,rfl⟩:=hrel;go_wp2;go_end0;exact⟨rfl,0,rfl⟩
set_option maxRecDepth 100000 in
theorem q0k(w:World):Calls Tryz.prog 100 #[.slice none 0 0,.int .i64 0,q5z] w (qce (.tuple #[]) w):=by
 go_enter Tryz.func100,Tryz.ntmps100;go_wp2_with fail
 go_loopw [7,8] (fun i l wr=>i = .int .i64 0∧l = .int .i64 20∧wr=w) (fun _ _ _=>0)
 case atStart=>exact⟨rfl,rfl,rfl⟩
 case round =>
  obtain⟨rfl,rfl,rfl⟩:=hrel;go_wp2_with fail;refine(qrw _).mono ?_;rintro e w1 ⟨rfl,m⟩;obtain⟨g,rfl⟩:∃g:World,g=w1:=⟨_,rfl⟩;go_wp2_with fail
  go_loopw [6] (fun o wr=>o = .int .i64 20∧wr=g) (fun _ _=>0)
  case atStart=>exact⟨rfl,rfl⟩
  case round =>
   obtain⟨rfl,rfl⟩:=hrel;go_wp2;go_end0;exact⟨rfl,m⟩
theorem qkh(w:World):Calls Tryz.prog 77 #[.slice none 0 0,q5z] w (qce (.tuple #[]) w):=by
 go_enter Tryz.func77,Tryz.ntmps77;go_wp2_with fail;refine(q0k _).mono ?_;rintro e w1 ⟨rfl,g⟩;go_wp2;go_end0;exact⟨rfl,g⟩
theorem qyq(Z:List Value):∀(A:List Value) (L:List Value),Z.length=A.length→(A.zipIdx).foldl (fun(cs:Array Value) (c,j)=>cs.setIfInBounds (L.length+j) c) (L++Z).toArray=(L++A).toArray:=by
 intro A L h;have key:∀(A:List Value) (k:Nat) (P Z:List Value),Z.length=A.length→P.length=L.length+k→(A.zipIdx k).foldl (fun(cs:Array Value) (c,j)=>cs.setIfInBounds (L.length+j) c) (P++Z).toArray=(P++A).toArray:=by
  intro A
  induction A with
  | nil=>intro k P Z g _;rw[List.length_eq_zero_iff.1 g];rfl
  | cons a A l =>
   intro k P Z g i;cases Z with
   | nil=>simp at g
   | cons z Z =>
    rw[List.zipIdx_cons,List.foldl_cons];have e:(P++z::Z).toArray.setIfInBounds (L.length+k) a=((P++[a])++Z).toArray:=by
     rw[←i];simp
    show List.foldl _ ((P++z::Z).toArray.setIfInBounds (L.length+k) a) _=_;rw[e,l (k+1) (P++[a]) Z (by simpa using g) (by simp[i];omega)];simp
 have:=key A 0 L Z h rfl;exact this
theorem Tryz.zeroItem:((Tryz.prog.info? 146).map fun i=>i.zero.map fun z=>z.cells.toList)=some (some (.bool false :: .int .u64 0 :: .int .u64 0::(List.replicate 32 (.int .u8 0)++[.int .i64 0]))):=by kernel_rfl
theorem que:∃i z,Tryz.prog.info? 146=some i∧i.zero=some z∧z.cells=(.bool false :: .int .u64 0 :: .int .u64 0::(List.replicate 32 (.int .u8 0)++[.int .i64 0])).toArray:=by
 have h:=Tryz.zeroItem;cases l:Tryz.prog.info? 146 with
 | none=>rw[l] at h;simp at h
 | some i =>
  rw[l,Option.map_some,Option.some.injEq] at h;cases g:i.zero with
  | none=>rw[g] at h;simp at h
  | some z =>
   rw[g,Option.map_some,Option.some.injEq] at h;exact⟨i,z,rfl,g,by rw[←h]⟩
theorem qvt{P:Program}{t:TypeId}{it:TypeInfo}{z:Value}{g:Array Field}{places:List (Nat × Nat)}(m:P.info? t=some it)(q:P.underlying t=some (.struct g))(v:it.zero=some z)
  (o:g.toList.mapM (fun f=>(P.info? f.type).map fun i=>(f.offset,i.size))=some places) (l:List (Nat × Value)):P.built t l=Instr.fill (places.toArray[·]?) z.cells l:=by
 unfold Program.built
 rw[m,q]
 simp only[v,o]
theorem q1a(b:Bool)(A:List Value)(h:A.length=35):Tryz.prog.built 146 [(0,.bool b),(1,.agg A.toArray)]=some (.bool b::A).toArray:=by
 obtain⟨i,z,o,q,m⟩:=que;rw[qvt (places:=[(0,1),(1,35)]) o Tryz.underlying146 q (by kernel_rfl),m];have l:=qyq (.int .u64 0 :: .int .u64 0::(List.replicate 32 (.int .u8 0)++[.int .i64 0])) A [.bool b] (by rw[h];rfl);have g:(.int .u64 0 :: .int .u64 0::(List.replicate 32 (.int .u8 0)++[.int .i64 0]):List Value).length=35:=rfl;generalize (.int .u64 0 :: .int .u64 0::(List.replicate 32 (.int .u8 0)++[.int .i64 0]):List Value)=Z at l g ⊢;simp[Instr.fill,Value.cells,h,g];exact l
theorem zbv(A:List Value)(h:A.length=36)(w:World):(Instr.buildSlice 124 1 #[(0,.agg A.toArray)]).run Tryz.prog w = .ok (.slice (some ⟨w.heap.size,0,none⟩) 1 1) (w.alloc (.cells A.toArray 146)):=by
 obtain⟨i,z,q,C,v⟩:=que;have g:i.size=36:=by have:=Tryz.infoItem;rw[q] at this;simpa using this
 refine run_buildSlice w _ _ 1 _ _ i z Tryz.underlying124 q C (by rw[g];decide) (by rw[g];decide) ?_;rw[g,v];generalize t:Array.map _ _=W;have l:W.toList.length=A.length:=by rw[←t,h];simp
 have o:=qyq W.toList A [] l;have m:W.size=36:=by rw[←h,←l];simp
 simp[Instr.fill,Value.cells,h,m] at o ⊢;exact o
def q8v(p:Array (Nat × Value)):Sem Value:=Instr.build 146 p
theorem qvp(p:Array (Nat × Value)):Instr.build 146 p=q8v p:=rfl
theorem zc9(b:Bool)(A:List Value)(w:World):(q8v #[(0,.bool b),(1,.agg A.toArray)]).run Tryz.prog w=if A.length=35 then .ok (.agg (.bool b::A).toArray) w else (Instr.build 146 #[(0,.bool b),(1,.agg A.toArray)]).run Tryz.prog w:=by
 by_cases h:A.length=35
 ·rw[if_pos h];exact run_build w _ _ _ (q1a b A h)
 ·rw[if_neg h];rfl
def q80(n:Nat)(p:Array (Nat × Value)):Sem Value:=Instr.buildSlice 124 n p
theorem qvr(n:Nat)(p:Array (Nat × Value)):Instr.buildSlice 124 n p=q80 n p:=rfl
theorem zdd(A:List Value)(w:World):(q80 1 #[(0,.agg A.toArray)]).run Tryz.prog w=if A.length=36 then .ok (.slice (some ⟨w.heap.size,0,none⟩) 1 1) (w.alloc (.cells A.toArray 146)) else (Instr.buildSlice 124 1 #[(0,.agg A.toArray)]).run Tryz.prog w:=by
 by_cases h:A.length=36
 ·rw[if_pos h];exact zbv A h w
 ·rw[if_neg h];rfl
end Go.Proofs.YthnohmjbbeahmaaGreatDoor
