/-
  The stable sort of less than twenty.
-/
import Derived.Test.YtjpmomdechibmaaGreatDoorSo3
import Derived.Great.BuildSlice
set_option linter.unusedVariables false
set_option linter.unusedSimpArgs false
namespace Go.Proofs.YtjpmomdechibmaaGreatDoor
open Go.RowKit Go.Sort
abbrev LI:=List (Item × Nat)
set_option maxRecDepth 100000 in
set_option maxHeartbeats 1600000 in
theorem q1y(g off cap N:Nat)(L:LI)(o:qzg L)(x:L.length=N)(D:N≤19)(w:World)(h:qdf w g off (its L)) :
  Calls Tryz.prog 93 #[.slice (some ⟨g,off,none⟩) N cap,.int .i64 (N:Int),q4b] w fun e w'=>e = .returned (.tuple #[])∧Upd (· = g) w w'∧∃M,M.Perm L∧Srt M∧qdf w' g off (its M):=by
 have H:=qb (qr7 g off cap [] [] L o N (by simp;omega) (by omega) 0 (N:Int) (by simp) (by simp;omega) w (by simpa using h))
 have f:¬(20:Int)≤(N:Int):=by omega
 have C:¬(20:Int)<(N:Int):=by omega
 clear x o h
 go_enter Tryz.func93,Tryz.ntmps93
 go_wp2_with fail
 go_loopw [7,8] (fun t v wr=>t = .int .i64 0∧v = .int .i64 20∧wr=w) (fun _ _ _=>0)
 case atStart=>exact⟨rfl,rfl,rfl⟩
 case round =>
  obtain⟨rfl,rfl,rfl⟩:=hrel
  go_wp2_with fail
  refine(qa H).mono ?_
  rintro e w1 ⟨rfl,z,M,i,l,f⟩
  have q:=qb (And.intro i (And.intro l f))
  obtain⟨m,rfl⟩:∃m:World,m=w1:=⟨_,rfl⟩
  clear i l f H
  go_wp2_with fail
  go_loopw [6] (fun y wr=>y = .int .i64 20∧wr=m) (fun _ _=>0)
  case atStart=>exact⟨rfl,rfl⟩
  case round =>
   obtain⟨rfl,rfl⟩:=hrel
   go_wp2_with fail
   go_end0
   obtain⟨i,l,f⟩:=qa q
   exact⟨rfl,z,M,i,l,by simpa using f⟩
theorem zbp(X:List Item):its X.zipIdx=X:=by simp[its]
theorem q1f:∀(X:List Item) (k:Nat),qzg (X.zipIdx k):=by
 intro X
 induction X with
 | nil=>intro k;exact List.Pairwise.nil
 | cons x X g =>
  intro k
  rw[List.zipIdx_cons]
  refine List.pairwise_cons.2 ⟨fun p f=> ?_,g _⟩
  have:=List.le_snd_of_mem_zipIdx f
  omega
theorem qky(g off cap N:Nat)(X:List Item)(o:X.length=N)(q:N≤19)(w:World)(h:qdf w g off X) :
  Calls Tryz.prog 62 #[.slice (some ⟨g,off,none⟩) N cap,q4b] w fun e w'=>e = .returned (.tuple #[])∧Upd (· = g) w w'∧∃M,M.Perm X.zipIdx∧Srt M∧qdf w' g off (its M):=by
 have H:=qb (q1y g off cap N X.zipIdx (q1f X 0) (by simpa using o) q w (by rw[zbp];exact h))
 go_enter Tryz.func62,Tryz.ntmps62
 go_wp2_with fail
 refine(qa H).mono ?_
 rintro e w1 ⟨rfl,t,M,i,l,m⟩
 have f:=qb (And.intro i l)
 clear i l
 go_wp2
 go_end0
 exact⟨rfl,t,M,(qa f).1,(qa f).2,m⟩
theorem q7t(X:List Item):(X.flatMap zi).length=X.length*36:=by
 induction X with
 | nil=>rfl
 | cons x X f=>rw[List.flatMap_cons,List.length_append,f,qcg,List.length_cons];omega
theorem q7s:∀(X:List Item) (i j:Nat),i<X.length→j<36→(X.flatMap zi)[i*36+j]? = (zi X[i]!)[j]? := by
 intro X
 induction X with
 | nil=>intro i j h;simp at h
 | cons x X l =>
  intro i j f g
  rw[List.flatMap_cons]
  cases i with
  | zero=>rw[List.getElem?_append_left (by rw[qcg];omega),Nat.zero_mul,Nat.zero_add];rfl
  | succ i =>
   rw[List.getElem?_append_right (by rw[qcg];omega),qcg,show (i+1)*36+j-36=i*36+j by omega,l i j (by simpa using f) g]
   rfl
theorem qu5{w:World}{base:Nat}{v:Value}{n:Nat}{X:List Item}(h:w.ownsRow base 129 36 v n (X.flatMap zi)) :
  n=X.length∧((v = .slice none 0 0∧X=[])∨∃g cap,v = .slice (some ⟨g,0,none⟩) X.length cap∧base≤g∧qdf w g 0 X):=by
 have m:n=X.length:=by have:=h.1;rw[q7t] at this;omega
 refine⟨m,?_⟩
 subst m
 rcases h.2 with ⟨e,o⟩ | ⟨g,cap,f,e,q,x,t,_,C,z⟩
 ·exact .inl ⟨e,List.length_eq_zero_iff.1 o⟩
 ·refine .inr ⟨g,cap,e,q,f,_,x,by have:=Nat.mul_le_mul_right 36 t;omega,fun i l j y=> ?_⟩
  rw[Nat.zero_add,←q7s X i j l y,←z,List.getElem?_take,if_pos (by have:=Nat.mul_le_mul_right 36 (show i+1≤X.length from l);omega),Array.getElem?_toList]
set_option maxRecDepth 100000 in
theorem qqn(w:World):Calls Tryz.prog 112 #[.slice none 0 0,.int .i64 0,.int .i64 0,q4b] w (qcc (.tuple #[]) w):=by
 go_enter Tryz.func112,Tryz.ntmps112
 go_wp2_with fail
 go_loopw [8] (fun f wr=>f = .int .i64 1∧wr=w) (fun _ _=>0)
 case atStart=>exact⟨rfl,rfl⟩
 case round =>
  obtain⟨rfl,rfl⟩:=hrel
  go_wp2
  go_end0
  exact⟨rfl,0,rfl⟩
set_option maxRecDepth 100000 in
theorem qy3(w:World):Calls Tryz.prog 93 #[.slice none 0 0,.int .i64 0,q4b] w (qcc (.tuple #[]) w):=by
 go_enter Tryz.func93,Tryz.ntmps93
 go_wp2_with fail
 go_loopw [7,8] (fun g i wr=>g = .int .i64 0∧i = .int .i64 20∧wr=w) (fun _ _ _=>0)
 case atStart=>exact⟨rfl,rfl,rfl⟩
 case round =>
  obtain⟨rfl,rfl,rfl⟩:=hrel
  go_wp2_with fail
  refine(qqn _).mono ?_
  rintro e w1 ⟨rfl,l⟩
  obtain⟨f,rfl⟩:∃f:World,f=w1:=⟨_,rfl⟩
  go_wp2_with fail
  go_loopw [6] (fun m wr=>m = .int .i64 20∧wr=f) (fun _ _=>0)
  case atStart=>exact⟨rfl,rfl⟩
  case round =>
   obtain⟨rfl,rfl⟩:=hrel
   go_wp2
   go_end0
   exact⟨rfl,l⟩
theorem qj2(w:World):Calls Tryz.prog 62 #[.slice none 0 0,q4b] w (qcc (.tuple #[]) w):=by
 go_enter Tryz.func62,Tryz.ntmps62
 go_wp2_with fail
 refine(qy3 _).mono ?_
 rintro e w1 ⟨rfl,f⟩
 go_wp2
 go_end0
 exact⟨rfl,f⟩
theorem qw7(Z:List Value):∀(A:List Value) (L:List Value),Z.length=A.length→(A.zipIdx).foldl (fun(cs:Array Value) (c,j)=>cs.setIfInBounds (L.length+j) c) (L++Z).toArray=(L++A).toArray:=by
 intro A L h
 have key:∀(A:List Value) (k:Nat) (P Z:List Value),Z.length=A.length→P.length=L.length+k→(A.zipIdx k).foldl (fun(cs:Array Value) (c,j)=>cs.setIfInBounds (L.length+j) c) (P++Z).toArray=(P++A).toArray:=by
  intro A
  induction A with
  | nil=>intro k P Z f _;rw[List.length_eq_zero_iff.1 f];rfl
  | cons a A i =>
   intro k P Z f g
   cases Z with
   | nil=>simp at f
   | cons z Z =>
    rw[List.zipIdx_cons,List.foldl_cons]
    have e:(P++z::Z).toArray.setIfInBounds (L.length+k) a=((P++[a])++Z).toArray:=by
     rw[←g];simp
    show List.foldl _ ((P++z::Z).toArray.setIfInBounds (L.length+k) a) _=_
    rw[e,i (k+1) (P++[a]) Z (by simpa using f) (by simp[g];omega)]
    simp
 have:=key A 0 L Z h rfl
 exact this
theorem Tryz.zeroItem:((Tryz.prog.info? 129).map fun i=>i.zero.map fun z=>z.cells.toList)=some (some (.bool false :: .int .u64 0 :: .int .u64 0::(List.replicate 32 (.int .u8 0)++[.int .i64 0]))):=by kernel_rfl
theorem qs8:∃i z,Tryz.prog.info? 129=some i∧i.zero=some z∧z.cells=(.bool false :: .int .u64 0 :: .int .u64 0::(List.replicate 32 (.int .u8 0)++[.int .i64 0])).toArray:=by
 have h:=Tryz.zeroItem
 cases g:Tryz.prog.info? 129 with
 | none=>rw[g] at h;simp at h
 | some i =>
  rw[g,Option.map_some,Option.some.injEq] at h
  cases f:i.zero with
  | none=>rw[f] at h;simp at h
  | some z =>
   rw[f,Option.map_some,Option.some.injEq] at h
   exact⟨i,z,rfl,f,by rw[←h]⟩
theorem qul{P:Program}{t:TypeId}{it:TypeInfo}{z:Value}{g:Array Field}{places:List (Nat × Nat)}(m:P.info? t=some it)(q:P.underlying t=some (.struct g))(v:it.zero=some z)
  (o:g.toList.mapM (fun f=>(P.info? f.type).map fun i=>(f.offset,i.size))=some places) (l:List (Nat × Value)):P.built t l=Instr.fill (places.toArray[·]?) z.cells l:=by
 unfold Program.built
 rw[m,q]
 simp only[v,o]
theorem qzq(b:Bool)(A:List Value)(h:A.length=35):Tryz.prog.built 129 [(0,.bool b),(1,.agg A.toArray)]=some (.bool b::A).toArray:=by
 obtain⟨i,z,m,o,l⟩:=qs8
 rw[qul (places:=[(0,1),(1,35)]) m Tryz.underlying129 o (by kernel_rfl),l]
 have g:=qw7 (.int .u64 0 :: .int .u64 0::(List.replicate 32 (.int .u8 0)++[.int .i64 0])) A [.bool b] (by rw[h];rfl)
 have f:(.int .u64 0 :: .int .u64 0::(List.replicate 32 (.int .u8 0)++[.int .i64 0]):List Value).length=35:=rfl
 generalize (.int .u64 0 :: .int .u64 0::(List.replicate 32 (.int .u8 0)++[.int .i64 0]):List Value)=Z at g f ⊢
 simp[Instr.fill,Value.cells,h,f]
 exact g
theorem q9l(A:List Value)(h:A.length=36)(w:World):(Instr.buildSlice 98 1 #[(0,.agg A.toArray)]).run Tryz.prog w = .ok (.slice (some ⟨w.heap.size,0,none⟩) 1 1) (w.alloc (.cells A.toArray 129)):=by
 obtain⟨i,z,o,v,t⟩:=qs8
 have f:i.size=36:=by have:=Tryz.infoItem;rw[o] at this;simpa using this
 refine run_buildSlice w _ _ 1 _ _ i z Tryz.underlying98 o v (by rw[f];decide) (by rw[f];decide) ?_
 rw[f,t]
 generalize q:Array.map _ _=W
 have g:W.toList.length=A.length:=by rw[←q,h];simp
 have m:=qw7 W.toList A [] g
 have l:W.size=36:=by rw[←h,←g];simp
 simp[Instr.fill,Value.cells,h,l] at m ⊢
 exact m
def q6z(p:Array (Nat × Value)):Sem Value:=Instr.build 129 p
theorem quh(p:Array (Nat × Value)):Instr.build 129 p=q6z p:=rfl
theorem zat(b:Bool)(A:List Value)(w:World):(q6z #[(0,.bool b),(1,.agg A.toArray)]).run Tryz.prog w=if A.length=35 then .ok (.agg (.bool b::A).toArray) w else (Instr.build 129 #[(0,.bool b),(1,.agg A.toArray)]).run Tryz.prog w:=by
 by_cases h:A.length=35
 ·rw[if_pos h];exact run_build w _ _ _ (qzq b A h)
 ·rw[if_neg h];rfl
def q63(n:Nat)(p:Array (Nat × Value)):Sem Value:=Instr.buildSlice 98 n p
theorem quj(n:Nat)(p:Array (Nat × Value)):Instr.buildSlice 98 n p=q63 n p:=rfl
theorem zax(A:List Value)(w:World):(q63 1 #[(0,.agg A.toArray)]).run Tryz.prog w=if A.length=36 then .ok (.slice (some ⟨w.heap.size,0,none⟩) 1 1) (w.alloc (.cells A.toArray 129)) else (Instr.buildSlice 98 1 #[(0,.agg A.toArray)]).run Tryz.prog w:=by
 by_cases h:A.length=36
 ·rw[if_pos h];exact q9l A h w
 ·rw[if_neg h];rfl
end Go.Proofs.YtjpmomdechibmaaGreatDoor
