/-
  The shelf: Insert$1, lowest.
-/
import Derived.Test.YthnohmjbbeahmaaGreatDoorMbf
import Derived.Test.YthnohmjbbeahmaaGreatDoorMba
set_option linter.unusedVariables false
set_option linter.unusedSimpArgs false
namespace Go.Proofs.YthnohmjbbeahmaaGreatDoor
open Go.RowKit
theorem KeptV.len(k:KeptV)(h:k.told.length=32):k.cells.length=34:=by simp[KeptV.cells,h]
theorem KeptV.one(k:KeptV):∀v∈k.cells,v.oneCell'=true:=by
 intro v hv;simp only[KeptV.cells,List.mem_cons,List.mem_map] at hv;rcases hv with rfl | rfl | ⟨n,_,rfl⟩<;>rfl
theorem Tryz.infoKpt:(Tryz.prog.info? 101).map (·.size)=some 34:=by kernel_rfl
def zhb(x:Value):Sem Value:=Instr.loadAt 101 x
theorem qqc(x:Value):Instr.loadAt 101 x=zhb x:=rfl
theorem zce(b o:Nat)(w:World):(zhb (.pointer (some ⟨b,o,none⟩))).run Tryz.prog w=match zu w b o 34 with | some A=> .ok (.agg A) w | none=>qdz Tryz.prog 101 w b o :=
 z6 101 34 _ Tryz.underlying101 rfl Tryz.infoKpt b o w
def zhm(x v:Value):Sem Unit:=Instr.storeAt 101 x v
theorem qqo(x v:Value):Instr.storeAt 101 x v=zhm x v:=rfl
theorem zd7(b o:Nat)(A:Array Value)(w:World):(zhm (.pointer (some ⟨b,o,none⟩)) (.agg A)).run Tryz.prog w=if stOk w b o 34 A=true then .ok () (w.setCells b o A.toList) else qfn Tryz.prog 101 w b o A :=
 qat 101 34 Tryz.infoKpt b o A w
theorem KeptV.zero_len:KeptV.zero.told.length=32:=List.length_replicate
def zg1:Sem Value:=Instr.alloc 101 true (.tuple #[])
theorem qpt:Instr.alloc 101 true (.tuple #[])=zg1:=rfl
theorem zae(w:World):zg1.run Tryz.prog w = .ok (.pointer (some ⟨w.heap.size,0,none⟩)) (w.alloc (.cells KeptV.zero.cells.toArray 101)):=by kernel_rfl
def zam(p:Array (Nat × Value)):Sem Value:=Instr.build 101 p
theorem qpv(p:Array (Nat × Value)):Instr.build 101 p=zam p:=rfl
theorem qpw(w:World):(zam #[]).run Tryz.prog w = .ok (.agg KeptV.zero.cells.toArray) w:=run_build w _ _ _ (by kernel_rfl)
theorem Tryz.zeroKpt:((Tryz.prog.info? 101).map fun i=>i.zero.map fun z=>z.cells.toList)=some (some KeptV.zero.cells):=by kernel_rfl
theorem Tryz.placesKpt:∃g,Tryz.prog.underlying 101=some (.struct g)∧g.toList.mapM (fun f=>(Tryz.prog.info? f.type).map fun i=>(f.offset,i.size))=some [(0,1),(1,1),(2,32)]:=⟨_,Tryz.underlying101,by kernel_rfl⟩
theorem q6z(b:Bool)(n:Int)(H:List Value)(h:H.length=32):Tryz.prog.built 101 [(0,.bool b),(1,.int .i64 n),(2,.agg H.toArray)]=some (.bool b :: .int .i64 n::H).toArray:=by
 obtain⟨i,z,l,q,g⟩:=qed Tryz.zeroKpt;obtain⟨t,o,m⟩:=Tryz.placesKpt;rw[qcd l o q m];rw[qc1 (P:=[]) (z:= .bool false) (R:= .int .i64 0::(qaj.map (Value.int .u8))) rfl rfl rfl g];rw[qc1 (P:=[.bool b]) (z:= .int .i64 0) (R:=qaj.map (Value.int .u8)) rfl rfl rfl (by rfl)];rw[qfa (P:=[.bool b,.int .i64 n]) (A:=H) (Z:=qaj.map (Value.int .u8)) (R:=[]) (off:=2) (by rw[h];rfl) rfl (by rw[h];rfl) (by rfl)];rw[Instr.fill];simp
theorem zh7(b:Bool)(n:Int)(h:List Int)(g:h.length=32)(w:World):(zam #[(0,.bool b),(1,.int .i64 n),(2,.agg (qy h).toArray)]).run Tryz.prog w = .ok (.agg (KeptV.cells ⟨b,n,h⟩).toArray) w :=
 run_build w _ _ _ (q6z b n (qy h) (by rw[qa1,g]))
structure KpS(w:World)(b:Nat)(k:KeptV):Prop where
 at_:w.heap[b]? = some (.cells k.cells.toArray 101 (0,0))
 len:k.told.length=32
section
variable {S:Nat→Prop}{w w':World}{b:Nat}{k:KeptV}
theorem KpS.upd(a:KpS w b k)(u:Upd S w w')(n:¬S b):KpS w' b k:=⟨u.old a.at_ n,a.len⟩
theorem KpS.new(a:KpS w b k)(u:qq w w'):KpS w' b k:=a.upd u (fun h=>h)
theorem KpS.lt(a:KpS w b k):b<w.heap.size:=qad a.at_
theorem KpS.row(a:KpS w b k):zu w b 0 34=some k.cells.toArray:=qag a.at_ 34 (by rw[List.size_toArray,k.len a.len])
theorem KpS.stOk(a:KpS w b k){j:KeptV}(g:j.told.length=32):stOk w b 0 34 j.cells.toArray=true:=by
 have:=qfd a.at_ (A:=j.cells) (by rw[List.size_toArray,k.len a.len,j.len g]) j.one;rwa [List.size_toArray,k.len a.len] at this
theorem KpS.put(a:KpS w b k){j:KeptV}(g:j.told.length=32):KpS (w.setCells b 0 j.cells) b j:=by
 refine⟨?_,g⟩;rw[qa4 a.at_ 0 _,qc4 _ _ (by rw[List.size_toArray,k.len a.len,j.len g])]
theorem KpS.c0(a:KpS w b k):w.cell? ⟨b,0,none⟩=some (.bool k.full):=qh a.at_ 0
theorem KpS.c1(a:KpS w b k):w.cell? ⟨b,1,none⟩=some (.int .i64 k.number):=qh a.at_ 1
theorem KpS.hsh(a:KpS w b k):zu w b 2 32=some (qy k.told).toArray:=by
 rw[qbv a.at_ 2 32 (by rw[List.size_toArray,k.len a.len];omega)];congr 1;apply Array.ext';rw[Array.toList_extract];unfold KeptV.cells;show List.take 32 (qy k.told)=qy k.told;exact List.take_of_length_le (by rw[qa1,a.len];exact Nat.le_refl _)
end
theorem qod(w:World)(k:KeptV)(g:k.told.length=32):KpS (w.alloc (.cells k.cells.toArray 101)) w.heap.size k:=⟨qi _ _,g⟩
attribute [local go_sem ↓ high] qab qan qar qaw qqc qqo qpt qpv qlw
attribute [local go_sem] qcr qde qdn qg2 zb zce zd7 zae qpw
def qi6(told:List Int)(i:Int)(k:KeptV):Bool:=(qc0 told i k.number).2==0&&(qc0 told i k.number).1 != k.told
theorem qwy(h:List Int)(b:Nat):qa7 (qga h b):=qgg _
theorem q3b(l:List Nat):∀h:List Int,qa7 h→qa7 (l.foldl qga h):=by
 induction l with
 | nil=>intro h g;exact g
 | cons b l i=>intro h _;rw[List.foldl_cons];exact i _ (qwy h b)
theorem qn3(h:List Int)(g:qa7 h)(i d:Nat):qa7 (qdu h i d):=q3b _ h g
theorem qt4(h:List Int)(g:qa7 h)(f t:Int):qa7 (qc0 h f t).1:=by
 unfold qc0;split
 ·exact qn3 h g _ _
 ·exact qec
set_option maxRecDepth 100000 in
set_option maxHeartbeats 1000000 in
theorem q0j(told:List Int)(P:told.length=32)(hb:qa7 told)(i:Int)(k:KeptV)(M:k.told.length=32)(kb:qa7 k.told)(A I:Nat)(w:World)(V:HsB w A told)(Z:w.cell? ⟨I,0,none⟩=some (.int .i64 i))(hT:Tabs w)(Y:Deb w) :
  Calls Tryz.prog 130 #[.agg k.cells.toArray,.pointer (some ⟨A,0,none⟩),.pointer (some ⟨I,0,none⟩)] w (qbf (.bool (qi6 told i k)) w):=by
 go_enter Tryz.func130,Tryz.ntmps130
 go_upto_region 1 with fail
 have v:=qod w k M
 have m:qq w (w.alloc (.cells k.cells.toArray 101)):=(Upd.refl _ _).alloc _
 generalize w.alloc (.cells k.cells.toArray 101)=w1 at v m ⊢
 obtain⟨B,x⟩:∃B,B=w.heap.size:=⟨_,rfl⟩
 rw[←x] at v ⊢
 have X:w.heap.size≤B:=by omega
 clear x
 have T:=v.c1
 have rA:=(V.new m).row
 have U:=m.cell Z (fun h=>h)
 have hd:=q2x told P i k.number w1 (hT.new m) (Y.new m)
 have N:=qzp told P i k.number
 have D:=qt4 told hb i k.number
 have O:qi6 told i k=((qc0 told i k.number).2==0&&(qc0 told i k.number).1 != k.told):=rfl
 have o:=qb O
 have R:=qb v
 clear O v
 generalize qc0 told i k.number=K at *
 go_wp2_with fail
 refine hd.mono ?_
 rintro e y ⟨rfl,F⟩
 obtain⟨E,L,J⟩:=qsl y K.1 N
 have z:=qb L
 have q:=qb (((qa R).new F).new J)
 have g:=qb ((m.trans F).trans J)
 clear hd T rA U m F L J
 go_upto_region 2 with fail
 change Code.wp _ _ _ _ (qvd y K.1)
 generalize qvd y K.1=w3 at z q g ⊢
 generalize y.heap.size=H at z ⊢
 clear E
 have a4:=fun W=>zcx N M D kb W
 have rH:=(qa z).row
 have rK:=(qa q).hsh
 cases t:K.2==0 with
 | false =>
  have l:Hid (qi6 told i k=false):=by rw[t,Bool.false_and] at o;exact o
  clear o rH rK;have C:¬K.2=0:=by simpa using t
  go_wp2_with fail;go_ret;exact⟨by rw[qa l];rfl,qa g⟩
 | true =>
  have l:Hid (qi6 told i k=(K.1 != k.told)):=by rw[t,Bool.true_and] at o;exact o
  have C:K.2=0:=by simpa using t
  clear o t;go_wp2_with fail;go_ret;exact⟨by rw[qa l];rfl,qa g⟩
theorem qr0{α:Type}{A B:List α}{n:Nat}(h:A.length=n):(A++B).drop n=B:=by subst h;simp
theorem q28(X:List KeptV)(g:∀p∈X,p.told.length=32):∀(i:Nat) (x:KeptV),X[i]? = some x→∃R,(X.flatMap KeptV.cells).drop (i*34)=x.cells++R:=by
 induction X with
 | nil=>intro i x h;simp at h
 | cons y X q =>
  intro i x h;have o:y.cells.length=34:=y.len (g y (List.mem_cons_self ..));cases i with
  | zero =>
   simp only[List.getElem?_cons_zero,Option.some.injEq] at h;subst h;exact⟨X.flatMap KeptV.cells,by simp⟩
  | succ i =>
   rw[List.getElem?_cons_succ] at h;obtain⟨R,l⟩:=q (fun p m=>g p (List.mem_cons_of_mem _ m)) i x h;refine⟨R,?_⟩;rw[List.flatMap_cons,Nat.add_mul,Nat.one_mul,Nat.add_comm (i*34) 34,←List.drop_drop,qr0 o,l]
theorem ChP.kept{w:World}{g:Nat}{S:Nat→Prop}{c:Ch}{l nv m:Value}(h:ChP w g S c l nv m){i:Nat}{p:KeptV}(t:c.shelf[i]? = some p):zu w g (48+i*34) 34=some p.cells.toArray:=by
 have D:=h.ok.s.seed;have E:=(List.getElem?_eq_some_iff.1 t).1;have y:=h.ok.shelf.2 p (List.mem_of_getElem? t);have q:c.s.cells.length=37:=c.s.len D;have H:(c.shelf.flatMap KeptV.cells).length=578:=by rw[qjs _ h.ok.shelf.2,h.ok.shelf.1]
 have x:(c.v l nv m).cells=(c.s.cells++(c.k.cells++[.int .u64 c.loc,.int .u64 c.rem,l]))++(c.shelf.flatMap KeptV.cells++[nv,m]):=by
  show c.s.cells++(c.k.cells++(Value.int .u64 c.loc :: .int .u64 c.rem::l::(c.shelf.flatMap KeptV.cells++[nv,m])))=_;simp
 have o:(c.s.cells++(c.k.cells++[.int .u64 c.loc,.int .u64 c.rem,l])).length=48:=by
  rw[List.length_append,List.length_append,q];rfl
 have z:=h.ok.shelf.1;have F:48+i*34+34≤(c.v l nv m).cells.toArray.size:=by
  rw[List.size_toArray,x,List.length_append,o,List.length_append,H];show 48+i*34+34≤48+(578+2);omega
 rw[qbv h.at_ _ 34 F];congr 1;apply Array.ext';rw[Array.toList_extract,x];show List.extract (_++_) (48+i*34) (48+i*34+34)=_;rw[List.extract_eq_take_drop,Nat.add_sub_cancel_left,←List.drop_drop,qr0 o];obtain⟨R,C⟩:=q28 c.shelf h.ok.shelf.2 i p t;rw[List.drop_append_of_le_length (by omega),C,List.append_assoc,List.take_append_of_le_length (by rw[p.len y];exact Nat.le_refl _),List.take_of_length_le (by rw[p.len y];exact Nat.le_refl _)]
def qog(told:List Int)(i:Int)(ps:List KeptV):Option KeptV:=ps.find? fun k=>k.full&&qi6 told i k
def q8r(told:List Int)(i:Int)(ps:List KeptV):KeptV:=(qog told i ps).getD KeptV.zero
set_option maxRecDepth 100000 in
set_option maxHeartbeats 1000000 in
theorem q3u(g:Nat)(S:Nat→Prop)(c:Ch)(lv nv av:Value)(n:Nat)(told:List Int)(ht:told.length=32)(hb:qa7 told)(i:Int)(A I:Nat)(w:World)(h:ChP w g S c lv nv av)(a5:∀p∈c.shelf,qa7 p.told)(hn:n≤17)
  (hA:HsB w A told) (hI:w.cell? ⟨I,0,none⟩=some (.int .i64 i)) (hT:Tabs w) (hD:Deb w) :
  Calls Tryz.prog 129 #[.pointer (some ⟨g,48,none⟩),.int .i64 n,.func (.func 130) #[] #[.pointer (some ⟨A,0,none⟩),.pointer (some ⟨I,0,none⟩)]] w (qbf (.tuple #[.agg (q8r told i (c.shelf.take n)).cells.toArray,.bool (qog told i (c.shelf.take n)).isSome]) w):=by
 have b4:(n:Int)≤17:=by omega
 go_enter Tryz.func129,Tryz.ntmps129
 go_upto_region 1 with fail
 have U:=qod w KeptV.zero KeptV.zero_len
 have z:qq w (w.alloc (.cells KeptV.zero.cells.toArray 101)):=(Upd.refl _ _).alloc _
 generalize w.alloc (.cells KeptV.zero.cells.toArray 101)=w1 at U z ⊢
 obtain⟨R,J⟩:∃R,R=w.heap.size:=⟨_,rfl⟩
 rw[←J] at U ⊢
 have a8:w.heap.size≤R:=by omega
 clear J
 have H1:=qb (h.new z)
 have HA:=qb (hA.new z)
 have HI:=qb (z.cell hI (fun h=>h))
 have HT:=qb (hT.new z)
 have HD:=qb (hD.new z)
 have HR:=qb U
 have HN:=qb z
 clear h hA hI hT hD U z
 go_wp2_with fail
 go_loopw [9,16] (fun _ iv wr=>∃j:Nat,iv = .int .i64 (j:Int)∧j≤n∧Hid (qog told i (c.shelf.take j)=none)∧qq w1 wr) (fun _ iv _=>n-(intOf iv).toNat)
 case atStart=>exact⟨0,rfl,Nat.zero_le _,qb rfl,Upd.refl _ _⟩
 case round =>
  obtain⟨j,rfl,hj,q,H⟩:=hrel;obtain⟨t,rfl⟩:∃t:World,t=wr:=⟨_,rfl⟩;by_cases b3:j<n
  ·have T:=(qa H1).new H;have a4:=T.ok.shelf.1;obtain⟨p,O⟩:∃p,c.shelf[j]? = some p:=⟨_,List.getElem?_eq_getElem (by omega)⟩;have D:=List.mem_of_getElem? O;have o:=T.ok.shelf.2 p D;have a6:=a5 p D;have P:=T.kept O;have ha:=qod t KeptV.zero KeptV.zero_len;have E:=ha.stOk o;have y:=ha.put o;have C:qq t ((t.alloc (.cells KeptV.zero.cells.toArray 101)).setCells t.heap.size 0 p.cells):=(((Upd.refl (fun _=>False) t).alloc _)).then (qac _) (fun i hi e=>by omega);have a9:(j:Int)<(n:Int):=by omega
   have N:qog told i (c.shelf.take (j+1))=if (p.full&&qi6 told i p)=true then some p else none:=by
    unfold qog at q ⊢;rw[List.take_add_one,O,List.find?_append,qa q];simp only[Option.none_or,Option.toList_some,List.find?_cons,List.find?_nil];cases (p.full&&qi6 told i p)<;>rfl
   have x:=qb N;have a7:=qb O;clear T D ha N O a4;go_upto_region 4 with fail;have F:=qb y;have l:=H.trans C;generalize (t.alloc (.cells KeptV.zero.cells.toArray 101)).setCells t.heap.size 0 p.cells=w5 at F l ⊢;generalize t.heap.size=K at F ⊢;clear E y C P H;have Z:=(qa F).c0;cases V:p.full with
   | false =>
    rw[V] at Z;rw[V,Bool.false_and] at x;go_wp2_with fail;go_roundw
    case rel=>exact⟨j+1,by go_num,by omega,by rw[if_neg (by decide)] at x;exact x,l⟩
    case measure=>simp[intOf];omega
   | true =>
    rw[V] at Z;rw[V,Bool.true_and] at x;have rK:=(qa F).row;have L:=q0j told ht hb i p o a6 A I w5 ((qa HA).new l) (l.cell (qa HI) (fun h=>h)) ((qa HT).new l) ((qa HD).new l);go_wp2_with fail;refine L.mono ?_;rintro e w6 ⟨rfl,n6⟩;have v:=l.trans n6;have W:=qb ((qa F).new n6);clear L rK Z F;cases ho:qi6 told i p with
    | false =>
     rw[ho,if_neg (by decide)] at x;go_wp2_with fail;go_roundw
     case rel=>exact⟨j+1,by go_num,by omega,x,v⟩
     case measure=>simp[intOf];omega
    | true =>
     rw[ho,if_pos rfl] at x;have b5:=(qa W).row;have m:=(qa HR).new v;have E:=m.stOk o;have X:=qb (m.put o);have Y:=qb (((qa HN).trans v).then (qac (w:=w6) (b:=R) p.cells) (fun i hi e=>by omega));clear m l n6 v;go_wp2_with fail;have hF:=qa X;refine bodyPost_ret (qs rfl _ _ R _ _ _ _ rfl hF.at_ Tryz.underlying101 rfl (by rw[List.size_toArray,p.len o];exact Tryz.infoKpt)) rfl ?_;have M:qog told i (c.shelf.take n)=some p:=by
      have e:c.shelf.take n=c.shelf.take (j+1)++(c.shelf.drop (j+1)).take (n-(j+1)):=by
       rw[←List.take_add,Nat.add_sub_cancel' (by omega)]
      have h0:=qa x;unfold qog at h0 ⊢;rw[e,List.find?_append,h0];rfl
     refine⟨?_,qa Y⟩;unfold q8r;rw[M];rfl
  ·obtain rfl:j=n:=by omega
   have m:=(qa HR).new H;have E:=m.stOk KeptV.zero_len;have X:=qb (m.put KeptV.zero_len);have Y:=qb (((qa HN).trans H).then (qac (w:=t) (b:=R) KeptV.zero.cells) (fun i hi e=>by omega));clear m H;go_wp2_with fail;have hF:=qa X;refine bodyPost_ret (qs rfl _ _ R _ _ _ _ rfl hF.at_ Tryz.underlying101 rfl (by rw[List.size_toArray,KeptV.zero.len KeptV.zero_len];exact Tryz.infoKpt)) rfl ?_;refine⟨?_,qa Y⟩;unfold q8r;rw[qa q];rfl
end Go.Proofs.YthnohmjbbeahmaaGreatDoor
namespace Go.Proofs.YthnohmjbbeahmaaGreatDoor
open Go.RowKit
theorem qvj(P Z R Q:List Value)(o:Nat)(l:P.length=o)(h:Z.length=Q.length):qkx (P++(Z++R)).toArray o Q=(P++(Q++R)).toArray:=by
 apply Array.ext';apply List.ext_getElem?;intro j;have g:(P++(Z++R)).toArray.size=P.length+(Z.length+R.length):=by simp
 rw[Array.getElem?_toList,qhm _ _ _ _ (by rw[g];omega),List.getElem?_toArray];by_cases i:o≤j∧j<o+Q.length
 ·rw[if_pos i,List.getElem?_append_right (by omega),List.getElem?_append_left (by omega),l]
 ·rw[if_neg i];by_cases m:j<o
  ·rw[List.getElem?_append_left (by omega),List.getElem?_append_left (by omega)]
  ·rw[List.getElem?_append_right (by omega),List.getElem?_append_right (by omega),List.getElem?_append_right (by omega),List.getElem?_append_right (by omega),h]
theorem q5n(X:List KeptV){i:Nat}{x:KeptV}(h:X[i]? = some x):X.flatMap KeptV.cells=(X.take i).flatMap KeptV.cells++(x.cells++(X.drop (i+1)).flatMap KeptV.cells):=by
 have g:=(List.getElem?_eq_some_iff.1 h).1;have l:=(List.getElem?_eq_some_iff.1 h).2
 conv=>lhs;rw[←List.take_append_drop i X]
 rw[List.flatMap_append,List.drop_eq_getElem_cons g,l,List.flatMap_cons]
theorem ChP.putKept{w:World}{g:Nat}{S:Nat→Prop}{c:Ch}{l nv m:Value}(h:ChP w g S c l nv m){i:Nat}{p k:KeptV}(E:c.shelf[i]? = some p)(t:k.told.length=32) :
  stOk w g (48+i*34) 34 k.cells.toArray=true∧ChP (w.setCells g (48+i*34) k.cells) g S {c with shelf:=c.shelf.set i k} l nv m:=by
 have U:=h.ok.s.seed
 have F:=(List.getElem?_eq_some_iff.1 E).1
 have N:=h.ok.shelf.2 p (List.mem_of_getElem? E)
 have D:c.s.cells.length=37:=c.s.len U
 have C:=h.ok.shelf.1
 have x:(c.s.cells++(c.k.cells++[.int .u64 c.loc,.int .u64 c.rem,l])).length=48:=by
  rw[List.length_append,List.length_append,D];rfl
 have J:((c.shelf.take i).flatMap KeptV.cells).length=i*34:=by
  rw[qjs _ (fun q H=>h.ok.shelf.2 q (List.mem_of_mem_take H)),List.length_take,Nat.min_eq_left (by omega)]
 have z:∀(s:List KeptV),(({c with shelf:=s} : Ch).v l nv m).cells=(c.s.cells++(c.k.cells++[.int .u64 c.loc,.int .u64 c.rem,l]))++(s.flatMap KeptV.cells++[nv,m]):=by
  intro s;show c.s.cells++(c.k.cells++(Value.int .u64 c.loc :: .int .u64 c.rem::l::(s.flatMap KeptV.cells++[nv,m])))=_;simp
 have L:(c.v l nv m).cells=((c.s.cells++(c.k.cells++[.int .u64 c.loc,.int .u64 c.rem,l]))++(c.shelf.take i).flatMap KeptV.cells)++(p.cells++((c.shelf.drop (i+1)).flatMap KeptV.cells++[nv,m])):=by
  refine(z c.shelf).trans ?_;rw[q5n c.shelf E];simp only[List.append_assoc]
 have y:(c.shelf.set i k)[i]? = some k:=by rw[List.getElem?_set_self F]
 have P:(({c with shelf:=c.shelf.set i k} : Ch).v l nv m).cells=((c.s.cells++(c.k.cells++[.int .u64 c.loc,.int .u64 c.rem,l]))++(c.shelf.take i).flatMap KeptV.cells)++(k.cells++((c.shelf.drop (i+1)).flatMap KeptV.cells++[nv,m])):=by
  refine(z _).trans ?_;rw[q5n (c.shelf.set i k) y,List.take_set_of_le (Nat.le_refl _),List.drop_set_of_lt (by omega)];simp only[List.append_assoc]
 have M:((c.s.cells++(c.k.cells++[.int .u64 c.loc,.int .u64 c.rem,l]))++(c.shelf.take i).flatMap KeptV.cells).length=48+i*34:=by
  rw[List.length_append,x,J]
 have I:48+i*34+34≤(c.v l nv m).cells.toArray.size:=by
  rw[List.size_toArray,L,List.length_append,M,List.length_append,p.len N];omega
 have o:=qa4 h.at_ (48+i*34) k.cells
 rw[L,qvj _ _ _ _ _ M (by rw[p.len N,k.len t]),←P] at o
 refine⟨qf3 h.at_ I (by rw[List.size_toArray,k.len t]) (by rw[Array.all_eq_true_iff_forall_mem];intro v hv;exact k.one v (by simpa using hv)),?_⟩
 have u:Upd (· = g) w (w.setCells g (48+i*34) k.cells):=(Upd.refl _ _).setCells _ _
 have K:∀ {T:TypeId} {v:Value} {n:Nat} {xs:List Value},T≠106→w.ownsRow 0 T 38 v n xs→∀k,v.ownBlock=some k→¬k=g:=by
  intro T v n xs R V k t e;obtain⟨O,z⟩:=qal V k t;exact qap z h.at_ R e
 refine⟨o,⟨h.ok.s,h.ok.signed,h.ok.heard,h.ok.nextOwn,h.ok.nextTheirs,h.ok.loc,h.ok.rem,h.ok.xs,h.ok.few,?_,h.ok.news,h.ok.last,h.ok.many⟩,?_,?_,?_,h.inG,h.inL,h.inN,h.inA,h.sep,fun k t=>Nat.lt_of_lt_of_le (h.lt k t) u.size⟩
 ·refine⟨by show (c.shelf.set i k).length=17;rw[List.length_set];exact C,fun q H=> ?_⟩;rcases List.mem_or_eq_of_mem_set H with e | e
  ·exact h.ok.shelf.2 q e
  ·rw[e];exact t
 ·exact zg h.live u (K (by decide) h.live)
 ·exact zg h.news u (K (by decide) h.news)
 ·exact zg h.last u (K (by decide) h.last)
attribute [local go_sem ↓ high] qab qan qar qaw qqc qqo qpt qpv qlw
attribute [local go_sem] qcr qde qdn qg2 zb zce zd7 zae qpw
def qfx(told:List Int)(i:Int)(ps:List KeptV):Int:=if qn2 i i=false then 1 else if (qog told i (ps.take (qbs i))).isSome=true then 50 else 0
def qmz(told:List Int)(i:Int)(ps:List KeptV):List KeptV:=if qfx told i ps=0 then ps.set (qbs i) ⟨true,i,told⟩ else ps
set_option maxRecDepth 100000 in
set_option maxHeartbeats 1000000 in
theorem q3k(g:Nat)(S:Nat→Prop)(c:Ch)(lv nv av:Value)(told:List Int)(ht:told.length=32)(hb:qa7 told)(i:Int)(w:World)(h:ChP w g S c lv nv av)(a6:∀p∈c.shelf,qa7 p.told)(hT:Tabs w)(hD:Deb w) :
  Calls Tryz.prog 111 #[.pointer (some ⟨g,48,none⟩),.int .i64 i,.agg (qy told).toArray] w fun e w' =>
   e = .returned (.int .i64 (qfx told i c.shelf))∧ChP w' g S {c with shelf:=qmz told i c.shelf} lv nv av∧Upd (· = g) w w':=by
 go_enter Tryz.func111,Tryz.ntmps111
 go_upto_region 1 with fail
 have v:((w.alloc (.cells #[.int .i64 i] 3)).alloc (.cells (qy told).toArray 33)).cell? ⟨w.heap.size,0,none⟩=some (.int .i64 i):=by
  rw[qh (zr (qi _ _) _)];rfl
 have O:=qck (w.alloc (.cells #[.int .i64 i] 3)) told ht
 rw[World.size_alloc] at O
 have E:qq w ((w.alloc (.cells #[.int .i64 i] 3)).alloc (.cells (qy told).toArray 33)):=((Upd.refl _ _).alloc _).alloc _
 generalize (w.alloc (.cells #[.int .i64 i] 3)).alloc (.cells (qy told).toArray 33)=w1 at v O E ⊢
 have X:=h.lt g h.inG
 obtain⟨I,U⟩:∃I,I=w.heap.size:=⟨_,rfl⟩
 obtain⟨A,R⟩:∃A,A=w.heap.size+1:=⟨_,rfl⟩
 rw[←R] at O ⊢
 rw[←U] at v ⊢
 have b4:g≠A:=by omega
 have b5:g≠I:=by omega
 clear U R X
 have z:=q49 i i w1 (hD.new E)
 have M:=qb (h.new E)
 have HA:=qb O
 have HT:=qb (hT.new E)
 have HD:=qb (hD.new E)
 have HN:=qb E
 have a8:=h.ok.shelf.1
 have Y:qfx told i c.shelf=if qn2 i i=false then 1 else if (qog told i (c.shelf.take (qbs i))).isSome=true then 50 else 0:=rfl
 have Z:qmz told i c.shelf=if qfx told i c.shelf=0 then c.shelf.set (qbs i) ⟨true,i,told⟩ else c.shelf:=rfl
 have l:=qb Y
 have m:=qb Z
 have b6:=qmq i
 clear h O hT hD E Y Z
 go_wp2_with fail
 refine z.mono ?_
 rintro e w2 ⟨rfl,q2⟩
 have o:=q2.cell v
 have H:qq w1 w2:=q2.upd _
 clear z v
 cases hc:qn2 i i with
 | false =>
  rw[hc,if_pos rfl] at l;rw[qa l,if_neg (by decide)] at m;have N:=qb (((qa HN).trans H).mono (T:=(· = g)) (fun _ _ h=>h.elim));have H2:=qb ((qa M).new H);clear q2 H o;go_wp2_with fail;go_ret;rw[qa m,qa l];exact⟨rfl,qa H2,qa N⟩
 | true =>
  rw[hc,if_neg (by decide)] at l;have hp:=qkq i w2 ((qa HD).new H);go_upto_region 3 with fail;have N2:=qb H;clear q2 H;go_wp2_with fail;refine hp.mono ?_;rintro e w3 ⟨rfl,q3⟩;have J:qq w1 w3:=(qa N2).trans (q3.upd _);have q:=q3.cell o;have a4:=q3u g S c lv nv av (qbs i) told ht hb i A I w3 ((qa M).new J) a6 (by omega) ((qa HA).new J) q ((qa HT).new J) ((qa HD).new J);have N3:=qb J;clear hp J q3 o hc;have a7:(q8r told i (c.shelf.take (qbs i))).told.length=32:=by
   unfold q8r;cases e:qog told i (c.shelf.take (qbs i)) with
   | none=>exact KeptV.zero_len
   | some p =>
    unfold qog at e;exact(qa M).ok.shelf.2 p (List.mem_of_mem_take (List.mem_of_find?_eq_some e))
  generalize q8r told i (c.shelf.take (qbs i))=K at *
  generalize qog told i (c.shelf.take (qbs i))=L at *
  generalize qbs i=P at *
  go_upto_region 4 with fail;go_wp2_with fail;refine a4.mono ?_;rintro e D ⟨rfl,n4⟩;have x:=n4.cell q (fun h=>h);have ha:=qod D KeptV.zero KeptV.zero_len;have a5:=ha.stOk a7;have t:qq D ((D.alloc (.cells KeptV.zero.cells.toArray 101)).setCells D.heap.size 0 K.cells):=(((Upd.refl (fun _=>False) D).alloc _)).then (qac _) (fun i hi e=>by omega);have n5:=((qa N3).trans n4).trans t;have y:=t.cell x (fun h=>h);have F:=qb n5;clear a4 n4 ha t n5 q x;go_upto_region 5 with fail;generalize (D.alloc (.cells KeptV.zero.cells.toArray 101)).setCells D.heap.size 0 K.cells=w5 at y F ⊢;clear a5;generalize D.heap.size=k5;cases hL:L.isSome with
  | true =>
   rw[hL,if_pos rfl] at l;rw[qa l,if_neg (by decide)] at m;have N:=qb (((qa HN).trans (qa F)).mono (T:=(· = g)) (fun _ _ h=>h.elim));have H5:=qb ((qa M).new (qa F));clear y;go_wp2_with fail;go_ret;rw[qa m,qa l];exact⟨rfl,qa H5,qa N⟩
  | false =>
   rw[hL,if_neg (by decide)] at l;rw[qa l,if_pos rfl] at m;go_upto_region 7 with fail;have nd:qq w5 w5.drew:=(Upd.refl _ _).drew;have V:=((qa M).new (qa F)).new nd;obtain⟨p,hp⟩:∃p,c.shelf[P]? = some p:=⟨_,List.getElem?_eq_getElem (by omega)⟩;obtain⟨a5,C⟩:=V.putKept hp (k:=⟨true,i,told⟩) ht;have b3:=fun W=>zh7 true i told ht W
   have rA:=((qa HA).new (qa F)).row;have HP:=qb C;have u6:Upd (· = g) w5.drew (w5.drew.setCells g (48+P*34) (KeptV.cells ⟨true,i,told⟩)):=(Upd.refl _ _).setCells _ _;have N:=qb (((((qa HN).trans (qa F)).trans nd).mono (T:=(· = g)) (fun _ _ h=>h.elim)).trans u6);have a9:(P:Int)≤16:=by omega
   clear C V hp nd u6;go_wp2_with (with_reducible first|(first|refine' zi (qg ?_) ?_|refine' zj (qg ?_) ?_);rotate_left|refine' zk (qg ?_)|rfl|apply tn|refine' zl ?_);go_ret;rw[qa m,qa l];exact⟨rfl,qa HP,qa N⟩
end Go.Proofs.YthnohmjbbeahmaaGreatDoor
namespace Go.Proofs.YthnohmjbbeahmaaGreatDoor
open Go.RowKit
inductive Fld where
 | ch
 | id
 | amount
 | hash
 | expiry
 | number
def Fld.zero(x:Fld)(m:MsgV):MsgV :=
 match x with
 | .ch=> {m with ch:=0}
 | .id=> {m with id:=0}
 | .amount=> {m with amount:=0}
 | .hash=> {m with hash:=qaj}
 | .expiry=> {m with expiry:=0}
 | .number=> {m with number:=0}
def qjx(base:Nat)(w:World)(v:Value)(f F:FuncId)(n:Int):Prop :=
 ∃p q,v = .func (.func f) #[] #[.pointer (some ⟨p,0,none⟩),.pointer (some ⟨q,0,none⟩)]∧base≤p∧base≤q∧w.cell? ⟨p,0,none⟩=some (.func (.func F) #[] #[])∧w.cell? ⟨q,0,none⟩=some (.int .i64 n)
def qk6(base:Nat)(w:World)(v:Value)(x:Fld):Prop :=
 match x with
 | .ch=>qjx base w v 138 124 4
 | .id=>qjx base w v 119 103 8
 | .amount=>qjx base w v 119 104 8
 | .hash=>v = .func (.func 109) #[] #[]
 | .expiry=>qjx base w v 122 106 4
 | .number=>qjx base w v 122 107 2
theorem qjx.upd{base:Nat}{w w':World}{v:Value}{f F:FuncId}{n:Int}{S:Nat→Prop}(h:qjx base w v f F n)(u:Upd S w w')(g:∀k,base≤k→¬S k):qjx base w' v f F n:=by
 obtain⟨p,q,e,i,l,m,o⟩:=h;exact⟨p,q,e,i,l,u.cell m (g p i),u.cell o (g q l)⟩
theorem qk6.upd{base:Nat}{w w':World}{v:Value}{x:Fld}{S:Nat→Prop}(h:qk6 base w v x)(u:Upd S w w')(g:∀k,base≤k→¬S k):qk6 base w' v x:=by
 cases x<;>first | exact qjx.upd h u g | exact h
theorem qk6.new{base:Nat}{w w':World}{v:Value}{x:Fld}(h:qk6 base w v x)(u:qq w w'):qk6 base w' v x:=h.upd u (fun _ _ h=>h)
theorem qjx.one{base:Nat}{w:World}{v:Value}{f F:FuncId}{n:Int}(h:qjx base w v f F n):v.oneCell'=true:=by
 obtain⟨p,q,rfl,_⟩:=h;rfl
theorem qk6.one{base:Nat}{w:World}{v:Value}{x:Fld}(h:qk6 base w v x):v.oneCell'=true:=by
 cases x<;>first | exact qjx.one h | (have h:v=_:=h;rw[h];rfl)
theorem zi6(m:MsgV)(n:Int):m.cells.toArray.setIfInBounds 1 (.int .u32 n)=({m with ch:=n} : MsgV).cells.toArray:=rfl
theorem zi7(m:MsgV)(n:Int):m.cells.toArray.setIfInBounds 2 (.int .u64 n)=({m with id:=n} : MsgV).cells.toArray:=rfl
theorem q4k(m:MsgV)(n:Int):m.cells.toArray.setIfInBounds 3 (.int .u64 n)=({m with amount:=n} : MsgV).cells.toArray:=rfl
theorem q0t(m:MsgV)(h:m.hash.length=32):m.cells=(.int .i64 m.kind :: .int .u32 m.ch :: .int .u64 m.id :: .int .u64 m.amount::qy m.hash)++[.int .i64 m.expiry,.int .i64 m.number]:=rfl
theorem q4m(m:MsgV)(h:m.hash.length=32)(n:Int):m.cells.toArray.setIfInBounds 36 (.int .i64 n)=({m with expiry:=n} : MsgV).cells.toArray:=by
 rw[List.setIfInBounds_toArray,q0t m h,List.set_append_right _ _ (by simp[qy,h])];congr 1;show _=(.int .i64 m.kind :: .int .u32 m.ch :: .int .u64 m.id :: .int .u64 m.amount::qy m.hash)++[.int .i64 n,.int .i64 m.number];simp[qy,h]
theorem q4n(m:MsgV)(h:m.hash.length=32)(n:Int):m.cells.toArray.setIfInBounds 37 (.int .i64 n)=({m with number:=n} : MsgV).cells.toArray:=by
 rw[List.setIfInBounds_toArray,q0t m h,List.set_append_right _ _ (by simp[qy,h])];congr 1;show _=(.int .i64 m.kind :: .int .u32 m.ch :: .int .u64 m.id :: .int .u64 m.amount::qy m.hash)++[.int .i64 m.expiry,.int .i64 n];simp[qy,h]
theorem zdo(m:MsgV)(h:m.hash.length=32)(k:List Int)(g:k.length=32):qkx m.cells.toArray 4 (qy k)=({m with hash:=k} : MsgV).cells.toArray :=
 qvj [.int .i64 m.kind,.int .u32 m.ch,.int .u64 m.id,.int .u64 m.amount] (qy m.hash) [.int .i64 m.expiry,.int .i64 m.number] (qy k) 4 rfl (by rw[qa1,qa1,h,g])
attribute [local go_sem ↓ high] qab qan qar qaw
attribute [local go_sem] qcr qde qdn qg2 zb
theorem zfj(A:Nat)(w:World):Calls Tryz.prog 103 #[.pointer (some ⟨A,0,none⟩)] w (qch (.pointer (some ⟨A,2,none⟩)) w):=by
 go_enter Tryz.func103,Tryz.ntmps103;go_wp2_with fail;go_ret;exact⟨rfl,Q.refl _⟩
theorem zfk(A:Nat)(w:World):Calls Tryz.prog 104 #[.pointer (some ⟨A,0,none⟩)] w (qch (.pointer (some ⟨A,3,none⟩)) w):=by
 go_enter Tryz.func104,Tryz.ntmps104;go_wp2_with fail;go_ret;exact⟨rfl,Q.refl _⟩
theorem zfl(A:Nat)(w:World):Calls Tryz.prog 106 #[.pointer (some ⟨A,0,none⟩)] w (qch (.pointer (some ⟨A,36,none⟩)) w):=by
 go_enter Tryz.func106,Tryz.ntmps106;go_wp2_with fail;go_ret;exact⟨rfl,Q.refl _⟩
theorem zfm(A:Nat)(w:World):Calls Tryz.prog 107 #[.pointer (some ⟨A,0,none⟩)] w (qch (.pointer (some ⟨A,37,none⟩)) w):=by
 go_enter Tryz.func107,Tryz.ntmps107;go_wp2_with fail;go_ret;exact⟨rfl,Q.refl _⟩
theorem zfn(A:Nat)(w:World):Calls Tryz.prog 124 #[.pointer (some ⟨A,0,none⟩)] w (qch (.pointer (some ⟨A,1,none⟩)) w):=by
 go_enter Tryz.func124,Tryz.ntmps124;go_wp2_with fail;go_ret;exact⟨rfl,Q.refl _⟩
def qjn:Value:= .agg #[.pointer none,.pointer none]
set_option maxRecDepth 100000 in
set_option maxHeartbeats 1000000 in
theorem qqv(F:FuncId)(o A p q:Nat)(x:Int)(m:MsgV)(w:World)(P:∀args w,(callFunc F args).run Tryz.prog w = .ok (.enter F args) w)(J:∀w,Calls Tryz.prog F #[.pointer (some ⟨A,0,none⟩)] w (qch (.pointer (some ⟨A,o,none⟩)) w))(D:w.cell? ⟨p,0,none⟩=some (.func (.func F) #[] #[]))(C:MsB w A m)(K:m.cells[o]? = some (.int .u64 x)) :
  Calls Tryz.prog 119 #[qjn,.pointer (some ⟨A,0,none⟩),.pointer (some ⟨p,0,none⟩),.pointer (some ⟨q,0,none⟩)] w fun e w'=>e = .returned (.tuple #[])∧∃w1,qq w w1∧w'=w1.setCell ⟨A,o,none⟩ (.int .u64 0):=by
 unfold qjn
 go_enter Tryz.func119,Tryz.ntmps119
 go_upto_region 1 with fail
 have i:qq w (w.alloc (.cells #[.pointer none,.pointer none] 155)):=(Upd.refl _ _).alloc _
 have v:=qi w (.cells #[.pointer none,.pointer none] 155)
 generalize w.alloc (.cells #[.pointer none,.pointer none] 155)=w1 at i v ⊢
 generalize w.heap.size=B at v ⊢
 have z:=i.cell D (fun h=>h)
 have H:=qb (C.new i)
 have y:=qb v
 clear v D C
 go_wp2_with fail
 refine(J w1).mono ?_
 rintro e t ⟨rfl,l⟩
 have E:qq w t:=i.trans (l.upd _)
 have g:=(qa H).new (l.upd _)
 have M:t.cell? ⟨B,0,none⟩=some (.pointer none):=l.cell (qh (qa y) 0)
 have N:t.cell? ⟨B,1,none⟩=some (.pointer none):=l.cell (qh (qa y) 1)
 have L:t.cell? ⟨A,o,none⟩=some (.int .u64 x):=by rw[qh g.at_,List.getElem?_toArray];exact K
 have O:t.frozen? ⟨A,o,none⟩=false:=qw g.at_ o
 have I:=qb E
 clear g l E i z y
 go_wp2_with (with_reducible first|(first|refine' zi (qg ?_) ?_|refine' zj (qg ?_) ?_);rotate_left|refine' zk (qg ?_)|rfl|apply tn|refine' zl ?_)
 go_end0
 exact⟨rfl,_,qa I,rfl⟩
set_option maxRecDepth 100000 in
set_option maxHeartbeats 1000000 in
theorem qqu(F:FuncId)(o A p q:Nat)(x:Int)(m:MsgV)(w:World)(P:∀args w,(callFunc F args).run Tryz.prog w = .ok (.enter F args) w)(J:∀w,Calls Tryz.prog F #[.pointer (some ⟨A,0,none⟩)] w (qch (.pointer (some ⟨A,o,none⟩)) w))(D:w.cell? ⟨p,0,none⟩=some (.func (.func F) #[] #[]))(C:MsB w A m)(K:m.cells[o]? = some (.int .i64 x)) :
  Calls Tryz.prog 122 #[qjn,.pointer (some ⟨A,0,none⟩),.pointer (some ⟨p,0,none⟩),.pointer (some ⟨q,0,none⟩)] w fun e w'=>e = .returned (.tuple #[])∧∃w1,qq w w1∧w'=w1.setCell ⟨A,o,none⟩ (.int .i64 0):=by
 unfold qjn
 go_enter Tryz.func122,Tryz.ntmps122
 go_upto_region 1 with fail
 have i:qq w (w.alloc (.cells #[.pointer none,.pointer none] 155)):=(Upd.refl _ _).alloc _
 have v:=qi w (.cells #[.pointer none,.pointer none] 155)
 generalize w.alloc (.cells #[.pointer none,.pointer none] 155)=w1 at i v ⊢
 generalize w.heap.size=B at v ⊢
 have z:=i.cell D (fun h=>h)
 have H:=qb (C.new i)
 have y:=qb v
 clear v D C
 go_wp2_with fail
 refine(J w1).mono ?_
 rintro e t ⟨rfl,l⟩
 have E:qq w t:=i.trans (l.upd _)
 have g:=(qa H).new (l.upd _)
 have M:t.cell? ⟨B,0,none⟩=some (.pointer none):=l.cell (qh (qa y) 0)
 have N:t.cell? ⟨B,1,none⟩=some (.pointer none):=l.cell (qh (qa y) 1)
 have L:t.cell? ⟨A,o,none⟩=some (.int .i64 x):=by rw[qh g.at_,List.getElem?_toArray];exact K
 have O:t.frozen? ⟨A,o,none⟩=false:=qw g.at_ o
 have I:=qb E
 clear g l E i z y
 go_wp2_with (with_reducible first|(first|refine' zi (qg ?_) ?_|refine' zj (qg ?_) ?_);rotate_left|refine' zk (qg ?_)|rfl|apply tn|refine' zl ?_)
 go_end0
 exact⟨rfl,_,qa I,rfl⟩
set_option maxRecDepth 100000 in
set_option maxHeartbeats 1000000 in
theorem q2c(F:FuncId)(o A p q:Nat)(x:Int)(m:MsgV)(w:World)(P:∀args w,(callFunc F args).run Tryz.prog w = .ok (.enter F args) w)(J:∀w,Calls Tryz.prog F #[.pointer (some ⟨A,0,none⟩)] w (qch (.pointer (some ⟨A,o,none⟩)) w))(D:w.cell? ⟨p,0,none⟩=some (.func (.func F) #[] #[]))(C:MsB w A m)(K:m.cells[o]? = some (.int .u32 x)) :
  Calls Tryz.prog 138 #[qjn,.pointer (some ⟨A,0,none⟩),.pointer (some ⟨p,0,none⟩),.pointer (some ⟨q,0,none⟩)] w fun e w'=>e = .returned (.tuple #[])∧∃w1,qq w w1∧w'=w1.setCell ⟨A,o,none⟩ (.int .u32 0):=by
 unfold qjn
 go_enter Tryz.func138,Tryz.ntmps138
 go_upto_region 1 with fail
 have i:qq w (w.alloc (.cells #[.pointer none,.pointer none] 155)):=(Upd.refl _ _).alloc _
 have v:=qi w (.cells #[.pointer none,.pointer none] 155)
 generalize w.alloc (.cells #[.pointer none,.pointer none] 155)=w1 at i v ⊢
 generalize w.heap.size=B at v ⊢
 have z:=i.cell D (fun h=>h)
 have H:=qb (C.new i)
 have y:=qb v
 clear v D C
 go_wp2_with fail
 refine(J w1).mono ?_
 rintro e t ⟨rfl,l⟩
 have E:qq w t:=i.trans (l.upd _)
 have g:=(qa H).new (l.upd _)
 have M:t.cell? ⟨B,0,none⟩=some (.pointer none):=l.cell (qh (qa y) 0)
 have N:t.cell? ⟨B,1,none⟩=some (.pointer none):=l.cell (qh (qa y) 1)
 have L:t.cell? ⟨A,o,none⟩=some (.int .u32 x):=by rw[qh g.at_,List.getElem?_toArray];exact K
 have O:t.frozen? ⟨A,o,none⟩=false:=qw g.at_ o
 have I:=qb E
 clear g l E i z y
 go_wp2_with (with_reducible first|(first|refine' zi (qg ?_) ?_|refine' zj (qg ?_) ?_);rotate_left|refine' zk (qg ?_)|rfl|apply tn|refine' zl ?_)
 go_end0
 exact⟨rfl,_,qa I,rfl⟩
set_option maxRecDepth 100000 in
set_option maxHeartbeats 1000000 in
theorem qyy(A:Nat)(m:MsgV)(w:World)(o:MsB w A m) :
  Calls Tryz.prog 109 #[qjn,.pointer (some ⟨A,0,none⟩)] w fun e w'=>e = .returned (.tuple #[])∧∃w1,qq w w1∧w'=w1.setCells A 4 (qy qaj):=by
 unfold qjn
 go_enter Tryz.func109,Tryz.ntmps109
 go_upto_region 2 with fail
 have l:qq w (w.alloc (.cells #[.pointer none,.pointer none] 155)):=(Upd.refl _ _).alloc _
 have i:=qi w (.cells #[.pointer none,.pointer none] 155)
 generalize w.alloc (.cells #[.pointer none,.pointer none] 155)=w1 at l i ⊢
 generalize w.heap.size=B at i ⊢
 have g:=o.new l
 have x:w1.cell? ⟨B,0,none⟩=some (.pointer none):=qh i 0
 have y:w1.cell? ⟨B,1,none⟩=some (.pointer none):=qh i 1
 have t:stOk w1 A 4 32 (qy qaj).toArray=true:=qf3 g.at_ (by rw[List.size_toArray,m.len g.len];omega) (by rw[List.size_toArray,qa1];exact qu) (by rw[Array.all_eq_true_iff_forall_mem];intro v hv;exact q0g _ v (by simpa using hv))
 have q:=qb l
 clear o g l i
 go_wp2_with (with_reducible first|(first|refine' zi (qg ?_) ?_|refine' zj (qg ?_) ?_);rotate_left|refine' zk (qg ?_)|rfl|apply tn|refine' zl ?_)
 go_end0
 exact⟨rfl,_,qa q,rfl⟩
theorem q7n(x:Fld)(base A:Nat)(m:MsgV)(v:Value)(w:World)(hv:qk6 base w v x)(i:MsB w A m)(M:A<base) :
  ∃F C,v = .func (.func F) #[] C∧(∀args w,(callFunc F args).run Tryz.prog w = .ok (.enter F args) w)∧Calls Tryz.prog F (#[qjn,.pointer (some ⟨A,0,none⟩)]++C) w fun e w'=>e = .returned (.tuple #[])∧MsB w' A (x.zero m)∧Upd (· = A) w w':=by
 have t:∀(w1:World) (o:Nat) (u:Value) (I:MsgV),qq w w1→m.cells.toArray.setIfInBounds o u=I.cells.toArray→I.hash.length=32→MsB (w1.setCell ⟨A,o,none⟩ u) A I∧Upd (· = A) w (w1.setCell ⟨A,o,none⟩ u):=by
  intro w1 o u I g l y;have J:=i.new g;have:=qah J.at_ o u;rw[l] at this;exact⟨⟨this,y⟩,(g.mono (fun _ _ h=>h.elim)).set1 o u⟩
 have y:=i.len
 cases x with
 | ch =>
  obtain⟨p,q,rfl,E,H,z,D⟩:=hv;refine⟨_,_,rfl,enters_of Tryz.func138 (by kernel_rfl) rfl,?_⟩;refine(q2c 124 1 A p q m.ch m w (enters_of Tryz.func124 (by kernel_rfl) rfl) (zfn A) z i rfl).mono ?_;rintro e w' ⟨l,w1,g,rfl⟩;exact⟨l,t w1 1 _ _ g (zi6 m 0) y⟩
 | id =>
  obtain⟨p,q,rfl,E,H,z,D⟩:=hv;refine⟨_,_,rfl,enters_of Tryz.func119 (by kernel_rfl) rfl,?_⟩;refine(qqv 103 2 A p q m.id m w (enters_of Tryz.func103 (by kernel_rfl) rfl) (zfj A) z i rfl).mono ?_;rintro e w' ⟨l,w1,g,rfl⟩;exact⟨l,t w1 2 _ _ g (zi7 m 0) y⟩
 | amount =>
  obtain⟨p,q,rfl,E,H,z,D⟩:=hv;refine⟨_,_,rfl,enters_of Tryz.func119 (by kernel_rfl) rfl,?_⟩;refine(qqv 104 3 A p q m.amount m w (enters_of Tryz.func104 (by kernel_rfl) rfl) (zfk A) z i rfl).mono ?_;rintro e w' ⟨l,w1,g,rfl⟩;exact⟨l,t w1 3 _ _ g (q4k m 0) y⟩
 | expiry =>
  obtain⟨p,q,rfl,E,H,z,D⟩:=hv;refine⟨_,_,rfl,enters_of Tryz.func122 (by kernel_rfl) rfl,?_⟩;have K:m.cells[36]? = some (.int .i64 m.expiry):=by
   have:=i.cells.2.2.2.2.1;rwa [qh i.at_,List.getElem?_toArray] at this
  refine(qqu 106 36 A p q m.expiry m w (enters_of Tryz.func106 (by kernel_rfl) rfl) (zfl A) z i K).mono ?_;rintro e w' ⟨l,w1,g,rfl⟩;exact⟨l,t w1 36 _ _ g (q4m m y 0) y⟩
 | number =>
  obtain⟨p,q,rfl,E,H,z,D⟩:=hv;refine⟨_,_,rfl,enters_of Tryz.func122 (by kernel_rfl) rfl,?_⟩;have K:m.cells[37]? = some (.int .i64 m.number):=by
   have:=i.cells.2.2.2.2.2.1;rwa [qh i.at_,List.getElem?_toArray] at this
  refine(qqu 107 37 A p q m.number m w (enters_of Tryz.func107 (by kernel_rfl) rfl) (zfm A) z i K).mono ?_;rintro e w' ⟨l,w1,g,rfl⟩;exact⟨l,t w1 37 _ _ g (q4n m y 0) y⟩
 | hash =>
  have hv:v=_:=hv;subst hv;refine⟨_,_,rfl,enters_of Tryz.func109 (by kernel_rfl) rfl,?_⟩;refine(qyy A m w i).mono ?_;rintro e w' ⟨l,w1,g,rfl⟩;have J:=i.new g;have L:=qa4 J.at_ 4 (qy qaj);rw[zdo m y qaj qu] at L;exact⟨l,⟨L,qu⟩,(g.mono (fun _ _ h=>h.elim)).setCells 4 _⟩
end Go.Proofs.YthnohmjbbeahmaaGreatDoor
namespace Go.Proofs.YthnohmjbbeahmaaGreatDoor
open Go.RowKit
theorem qak(n:Int)(F:FuncId)(w:World):Calls Tryz.prog 102 #[.int .i64 n,.func (.func F) #[] #[]] w fun e w'=>∃v,e = .returned v∧qq w w'∧qjx w.heap.size w' v 119 F n:=by
 go_enter Tryz.func102,Tryz.ntmps102;go_wp2_with fail;go_ret;have g:=qi (w.alloc (.cells #[.int .i64 n] 3)) (.cells #[.func (.func F) #[] #[]] 177);rw[World.size_alloc] at g;exact⟨_,rfl,((Upd.refl _ _).alloc _).alloc _,_,_,rfl,by omega,by omega,by rw[qh g];rfl,by rw[qh (zr (qi _ _) _)];rfl⟩
theorem qax(n:Int)(F:FuncId)(w:World):Calls Tryz.prog 105 #[.int .i64 n,.func (.func F) #[] #[]] w fun e w'=>∃v,e = .returned v∧qq w w'∧qjx w.heap.size w' v 122 F n:=by
 go_enter Tryz.func105,Tryz.ntmps105;go_wp2_with fail;go_ret;have g:=qi (w.alloc (.cells #[.int .i64 n] 3)) (.cells #[.func (.func F) #[] #[]] 180);rw[World.size_alloc] at g;exact⟨_,rfl,((Upd.refl _ _).alloc _).alloc _,_,_,rfl,by omega,by omega,by rw[qh g];rfl,by rw[qh (zr (qi _ _) _)];rfl⟩
theorem qom(n:Int)(F:FuncId)(w:World):Calls Tryz.prog 123 #[.int .i64 n,.func (.func F) #[] #[]] w fun e w'=>∃v,e = .returned v∧qq w w'∧qjx w.heap.size w' v 138 F n:=by
 go_enter Tryz.func123,Tryz.ntmps123;go_wp2_with fail;go_ret;have g:=qi (w.alloc (.cells #[.int .i64 n] 3)) (.cells #[.func (.func F) #[] #[]] 195);rw[World.size_alloc] at g;exact⟨_,rfl,((Upd.refl _ _).alloc _).alloc _,_,_,rfl,by omega,by omega,by rw[qh g];rfl,by rw[qh (zr (qi _ _) _)];rfl⟩
theorem qjx.later{a b:Nat}{w:World}{v:Value}{f F:FuncId}{n:Int}(h:qjx b w v f F n)(ab:a≤b):qjx a w v f F n:=by
 obtain⟨p,q,e,g,i,r⟩:=h;exact⟨p,q,e,by omega,by omega,r⟩
theorem qk6.later{a b:Nat}{w:World}{v:Value}{x:Fld}(h:qk6 b w v x)(ab:a≤b):qk6 a w v x:=by
 cases x<;>first | exact qjx.later h ab | exact h
structure FldsO(base:Nat)(w:World)(v:Value)(xs:List Fld):Prop where
 row:∃vs:List Value,w.ownsRow base 174 1 v xs.length vs∧vs.length=xs.length∧∀(i:Nat) (x:Fld) (u:Value),xs[i]? = some x→vs[i]? = some u→qk6 base w u x
theorem Tryz.zeroFld:((Tryz.prog.info? 174).map fun i=>(i.zero.map (·.cells.size),i.size,decide (i.bytes≤1000)))=some (some 1,1,true):=by kernel_rfl
theorem zbl:∃i z b,Tryz.prog.info? 174=some i∧i.zero=some z∧i.size=1∧i.bytes=b∧z.cells.size=1∧b≤1000:=by
 have h:=Tryz.zeroFld;cases m:Tryz.prog.info? 174 with
 | none=>rw[m] at h;cases h
 | some i =>
  rw[m] at h;simp only[Option.map_some,Option.some.injEq,Prod.mk.injEq] at h;obtain⟨g,o,q⟩:=h;cases l:i.zero with
  | none=>rw[l] at g;cases g
  | some z =>
   rw[l] at g;exact⟨i,z,i.bytes,rfl,l,o,rfl,by simpa using g,of_decide_eq_true q⟩
set_option maxRecDepth 100000 in
set_option maxHeartbeats 1000000 in
theorem qh6(g:Nat)(m:List Value)(w:World)(hg:w.heap[g]? = some (.cells m.toArray 174 (0,0)))(h1:∀v∈m,v.oneCell'=true)(hl:m.length≤100) :
  Calls Tryz.prog 108 #[.slice (some ⟨g,0,none⟩) m.length m.length] w fun e w'=>∃v c,e = .returned (.tuple #[v,.bool true])∧qq w w'∧w'.ownsRow w.heap.size 174 1 v (1+m.length) (c::m)∧qk6 w.heap.size w' c .ch:=by
 obtain⟨i9,z9,Z,H,N,K,L,M,F⟩:=zbl
 have V:=qom 4 124 w
 go_enter Tryz.func108,Tryz.ntmps108
 go_wp2_with fail
 refine V.mono ?_
 rintro e w1 ⟨c,rfl,E,p,q,rfl,hp,hq,R,T⟩
 clear V
 have lp:=World.block_lt_of_cell? w1 _ R
 have lq:=World.block_lt_of_cell? w1 _ T
 change p<_ at lp
 change q<_ at lq
 obtain⟨c,x⟩:∃c:Value,c = .func (.func 138) #[] #[.pointer (some ⟨p,0,none⟩),.pointer (some ⟨q,0,none⟩)]:=⟨_,rfl⟩
 have C:=qb x
 have o:(w1.alloc (.cells #[c] 174)).ownsRow w.heap.size 174 1 (.slice (some ⟨w1.heap.size,0,none⟩) 1 1) 1 [c] :=
  ⟨rfl,.inr ⟨w1.heap.size,1,#[c],rfl,E.size,qi _ _,Nat.le_refl _,by decide,rfl,rfl⟩⟩
 have y:(w1.alloc (.cells #[c] 174)).heap[g]? = some (.cells m.toArray 174 (0,0)):=(E.alloc (.cells #[c] 174)).old hg (fun h=>h)
 rw[x] at o y
 clear x
 go_wp2_with (at_builtin;refine wpList_append_own _ rfl (.tmp 7) (.tmp 8) 149 rfl w.heap.size 174 i9 _ 1 Z Tryz.underlying149 H N K L M (by decide) _ _ _ rfl o ⟨g,0,none⟩ m.length m.length m rfl (by rw[Nat.mul_one]) ?c1 h1 ?c3 ?c4 ?c5 ?_)
 case c1=>exact World.news_of_block (cs:=m.toArray) (fr:=(0,0)) y
 case c3=>unfold maxLen;omega
 case c4=>have:=Nat.mul_le_mul (show 1+m.length≤101 by omega) F;omega
 case c5=>have:=E.size;rw[World.size_alloc];omega
 intro v' P l i _
 obtain⟨wa,z⟩:∃wa:World,wa=w1.alloc (.cells #[.func (.func 138) #[] #[.pointer (some ⟨p,0,none⟩),.pointer (some ⟨q,0,none⟩)]] 174):=⟨_,rfl⟩
 have t:qq w1 wa:=by rw[z];exact(Upd.refl _ _).alloc _
 rw[←z] at i
 have U:qq w P:=(E.trans t).grown i (fun k I J=>by
  simp only[Value.ownBlock,Option.some.injEq] at I;have:=E.size;omega)
 have O:Upd (fun k=>k=w1.heap.size) wa P:=(Upd.refl _ _).grown i (fun k I J=>by
  simp only[Value.ownBlock,Option.some.injEq] at I;omega)
 have D:qk6 w.heap.size P c .ch:=by
  exact⟨p,q,qa C,hp,hq,O.cell (t.cell R (fun h=>h)) (by show ¬p=_;omega),O.cell (t.cell T (fun h=>h)) (by show ¬q=_;omega)⟩
 rw[←qa C] at l
 have Y:=qb l
 have W:=qb D
 have X:=qb U
 clear l i D U O o y t z
 go_wp2_with fail
 go_ret2
 exact⟨_,c,rfl,qa X,qa Y,qa W⟩
set_option maxRecDepth 100000 in
set_option maxHeartbeats 1000000 in
theorem qvl(w:World) :
  Calls Tryz.prog 108 #[.slice none 0 0] w fun e w'=>∃v c,e = .returned (.tuple #[v,.bool true])∧qq w w'∧w'.ownsRow w.heap.size 174 1 v 1 [c]∧qk6 w.heap.size w' c .ch:=by
 have i:=qom 4 124 w
 go_enter Tryz.func108,Tryz.ntmps108
 go_wp2_with fail
 refine i.mono ?_
 rintro e w1 ⟨c,rfl,l,p,q,rfl,t,x,m,o⟩
 clear i
 go_wp2_with fail
 go_ret2
 have g:qq w1 (w1.alloc (.cells #[.func (.func 138) #[] #[.pointer (some ⟨p,0,none⟩),.pointer (some ⟨q,0,none⟩)]] 174)):=(Upd.refl _ _).alloc _
 exact⟨_,_,rfl,l.trans g,⟨rfl,.inr ⟨w1.heap.size,1,_,rfl,l.size,qi _ _,Nat.le_refl _,by decide,rfl,rfl⟩⟩,⟨p,q,rfl,t,x,g.cell m (fun h=>h),g.cell o (fun h=>h)⟩⟩
end Go.Proofs.YthnohmjbbeahmaaGreatDoor
