/-
  The shelf: Insert$1, lowest.
-/
import Derived.Test.YtjpmomdechibmaaGreatDoorMbh
import Derived.Test.YtjpmomdechibmaaGreatDoorMbc
set_option linter.unusedVariables false
set_option linter.unusedSimpArgs false
namespace Go.Proofs.YtjpmomdechibmaaGreatDoor
open Go.RowKit
theorem KeptV.len(k:KeptV)(h:k.told.length=32):k.cells.length=34:=by simp[KeptV.cells,h]
theorem KeptV.one(k:KeptV):∀v∈k.cells,v.oneCell'=true:=by
 intro v f
 simp only[KeptV.cells,List.mem_cons,List.mem_map] at f
 rcases f with rfl | rfl | ⟨n,_,rfl⟩<;>rfl
theorem Tryz.infoKpt:(Tryz.prog.info? 87).map (·.size)=some 34:=by kernel_rfl
def zc3(x:Value):Sem Value:=Instr.loadAt 87 x
theorem qom(x:Value):Instr.loadAt 87 x=zc3 x:=rfl
theorem q8j(b o:Nat)(w:World):(zc3 (.pointer (some ⟨b,o,none⟩))).run Tryz.prog w=match zx w b o 34 with | some A=> .ok (.agg A) w | none=>qdw Tryz.prog 87 w b o :=
 zy 87 34 _ Tryz.underlying87 rfl Tryz.infoKpt b o w
def zdi(x v:Value):Sem Unit:=Instr.storeAt 87 x v
theorem qou(x v:Value):Instr.storeAt 87 x v=zdi x v:=rfl
theorem q91(b o:Nat)(A:Array Value)(w:World):(zdi (.pointer (some ⟨b,o,none⟩)) (.agg A)).run Tryz.prog w=if stOk w b o 34 A=true then .ok () (w.setCells b o A.toList) else qfx Tryz.prog 87 w b o A :=
 qay 87 34 Tryz.infoKpt b o A w
theorem KeptV.zero_len:KeptV.zero.told.length=32:=List.length_replicate
def zcs:Sem Value:=Instr.alloc 87 true (.tuple #[])
theorem qn3:Instr.alloc 87 true (.tuple #[])=zcs:=rfl
theorem q6r(w:World):zcs.run Tryz.prog w = .ok (.pointer (some ⟨w.heap.size,0,none⟩)) (w.alloc (.cells KeptV.zero.cells.toArray 87)):=by kernel_rfl
def q60(p:Array (Nat × Value)):Sem Value:=Instr.build 87 p
theorem qn5(p:Array (Nat × Value)):Instr.build 87 p=q60 p:=rfl
theorem qn6(w:World):(q60 #[]).run Tryz.prog w = .ok (.agg KeptV.zero.cells.toArray) w:=run_build w _ _ _ (by kernel_rfl)
theorem Tryz.zeroKpt:((Tryz.prog.info? 87).map fun i=>i.zero.map fun z=>z.cells.toList)=some (some KeptV.zero.cells):=by kernel_rfl
theorem Tryz.placesKpt:∃g,Tryz.prog.underlying 87=some (.struct g)∧g.toList.mapM (fun f=>(Tryz.prog.info? f.type).map fun i=>(f.offset,i.size))=some [(0,1),(1,1),(2,32)]:=⟨_,Tryz.underlying87,by kernel_rfl⟩
theorem q3p(b:Bool)(n:Int)(H:List Value)(h:H.length=32):Tryz.prog.built 87 [(0,.bool b),(1,.int .i64 n),(2,.agg H.toArray)]=some (.bool b :: .int .i64 n::H).toArray:=by
 obtain⟨i,z,g,o,f⟩:=qdy Tryz.zeroKpt
 obtain⟨q,m,l⟩:=Tryz.placesKpt
 rw[qb3 g m o l]
 rw[qcr (P:=[]) (z:= .bool false) (R:= .int .i64 0::(qad.map (Value.int .u8))) rfl rfl rfl f]
 rw[qcr (P:=[.bool b]) (z:= .int .i64 0) (R:=qad.map (Value.int .u8)) rfl rfl rfl (by rfl)]
 rw[qer (P:=[.bool b,.int .i64 n]) (A:=H) (Z:=qad.map (Value.int .u8)) (R:=[]) (off:=2) (by rw[h];rfl) rfl (by rw[h];rfl) (by rfl)]
 rw[Instr.fill]
 simp
theorem zdw(b:Bool)(n:Int)(h:List Int)(f:h.length=32)(w:World):(q60 #[(0,.bool b),(1,.int .i64 n),(2,.agg (zf h).toArray)]).run Tryz.prog w = .ok (.agg (KeptV.cells ⟨b,n,h⟩).toArray) w :=
 run_build w _ _ _ (q3p b n (zf h) (by rw[qa4,f]))
structure KpS(w:World)(b:Nat)(k:KeptV):Prop where
 at_:w.heap[b]? = some (.cells k.cells.toArray 87 (0,0))
 len:k.told.length=32
section
variable {S:Nat→Prop}{w w':World}{b:Nat}{k:KeptV}
theorem KpS.upd(a:KpS w b k)(u:Upd S w w')(n:¬S b):KpS w' b k:=⟨u.old a.at_ n,a.len⟩
theorem KpS.new(a:KpS w b k)(u:qy w w'):KpS w' b k:=a.upd u (fun h=>h)
theorem KpS.lt(a:KpS w b k):b<w.heap.size:=zw a.at_
theorem KpS.row(a:KpS w b k):zx w b 0 34=some k.cells.toArray:=qaq a.at_ 34 (by rw[List.size_toArray,k.len a.len])
theorem KpS.stOk(a:KpS w b k){j:KeptV}(f:j.told.length=32):stOk w b 0 34 j.cells.toArray=true:=by
 have:=qfe a.at_ (A:=j.cells) (by rw[List.size_toArray,k.len a.len,j.len f]) j.one
 rwa [List.size_toArray,k.len a.len] at this
theorem KpS.put(a:KpS w b k){j:KeptV}(f:j.told.length=32):KpS (w.setCells b 0 j.cells) b j:=by
 refine⟨?_,f⟩
 rw[qa9 a.at_ 0 _,qc5 _ _ (by rw[List.size_toArray,k.len a.len,j.len f])]
theorem KpS.c0(a:KpS w b k):w.cell? ⟨b,0,none⟩=some (.bool k.full):=qh a.at_ 0
theorem KpS.c1(a:KpS w b k):w.cell? ⟨b,1,none⟩=some (.int .i64 k.number):=qh a.at_ 1
theorem KpS.hsh(a:KpS w b k):zx w b 2 32=some (zf k.told).toArray:=by
 rw[qca a.at_ 2 32 (by rw[List.size_toArray,k.len a.len];omega)]
 congr 1
 apply Array.ext'
 rw[Array.toList_extract]
 unfold KeptV.cells
 show List.take 32 (zf k.told)=zf k.told
 exact List.take_of_length_le (by rw[qa4,a.len];exact Nat.le_refl _)
end
theorem qmj(w:World)(k:KeptV)(f:k.told.length=32):KpS (w.alloc (.cells k.cells.toArray 87)) w.heap.size k:=⟨qi _ _,f⟩
attribute [local go_sem ↓ high] qaa qap qar qa1 qom qou qn3 qn5 qkr
attribute [local go_sem] qcx qdn qdt qfm zq q8j q91 q6r qn6
def qh5(told:List Int)(i:Int)(k:KeptV):Bool:=(qcp told i k.number).2==0&&(qcp told i k.number).1 != k.told
theorem qum(h:List Int)(b:Nat):qa6 (qfn h b):=qez _
theorem qz8(l:List Nat):∀h:List Int,qa6 h→qa6 (l.foldl qfn h):=by
 induction l with
 | nil=>intro h f;exact f
 | cons b l g=>intro h _;rw[List.foldl_cons];exact g _ (qum h b)
theorem qi9(h:List Int)(f:qa6 h)(i d:Nat):qa6 (qce h i d):=qz8 _ h f
theorem qr1(h:List Int)(g:qa6 h)(f t:Int):qa6 (qcp h f t).1:=by
 unfold qcp
 split
 ·exact qi9 h g _ _
 ·exact qde
set_option maxRecDepth 100000 in
set_option maxHeartbeats 1000000 in
theorem qxu(told:List Int)(P:told.length=32)(hb:qa6 told)(i:Int)(k:KeptV)(M:k.told.length=32)(kb:qa6 k.told)(A I:Nat)(w:World)(V:HsB w A told)(Z:w.cell? ⟨I,0,none⟩=some (.int .i64 i))(hT:Tabs w)(Y:Deb w) :
  Calls Tryz.prog 125 #[.agg k.cells.toArray,.pointer (some ⟨A,0,none⟩),.pointer (some ⟨I,0,none⟩)] w (qa7 (.bool (qh5 told i k)) w):=by
 go_enter Tryz.func125,Tryz.ntmps125
 go_upto_region 1 with fail
 have t:=qmj w k M
 have l:qy w (w.alloc (.cells k.cells.toArray 87)):=(Upd.refl _ _).alloc _
 generalize w.alloc (.cells k.cells.toArray 87)=w1 at t l ⊢
 obtain⟨B,v⟩:∃B,B=w.heap.size:=⟨_,rfl⟩
 rw[←v] at t ⊢
 have X:w.heap.size≤B:=by omega
 clear v
 have T:=t.c1
 have rA:=(V.new l).row
 have U:=l.cell Z (fun h=>h)
 have L:=qzz told P i k.number w1 (hT.new l) (Y.new l)
 have N:=qwr told P i k.number
 have C:=qr1 told hb i k.number
 have O:qh5 told i k=((qcp told i k.number).2==0&&(qcp told i k.number).1 != k.told):=rfl
 have m:=qb O
 have R:=qb t
 clear O t
 generalize qcp told i k.number=K at *
 go_wp2_with fail
 refine L.mono ?_
 rintro e x ⟨rfl,E⟩
 obtain⟨D,J,F⟩:=qqm x K.1 N
 have y:=qb J
 have o:=qb (((qa R).new E).new F)
 have f:=qb ((l.trans E).trans F)
 clear L T rA U l E J F
 go_upto_region 2 with fail
 change Code.wp _ _ _ _ (qs5 x K.1)
 generalize qs5 x K.1=w3 at y o f ⊢
 generalize x.heap.size=H at y ⊢
 clear D
 have a4:=fun W=>q8z N M C kb W
 have rH:=(qa y).row
 have rK:=(qa o).hsh
 cases q:K.2==0 with
 | false =>
  have g:Hid (qh5 told i k=false):=by rw[q,Bool.false_and] at m;exact m
  clear m rH rK
  have z:¬K.2=0:=by simpa using q
  go_wp2_with fail
  go_ret
  exact⟨by rw[qa g];rfl,qa f⟩
 | true =>
  have g:Hid (qh5 told i k=(K.1 != k.told)):=by rw[q,Bool.true_and] at m;exact m
  have z:K.2=0:=by simpa using q
  clear m q
  go_wp2_with fail
  go_ret
  exact⟨by rw[qa g];rfl,qa f⟩
theorem qp4{α:Type}{A B:List α}{n:Nat}(h:A.length=n):(A++B).drop n=B:=by subst h;simp
theorem qz5(X:List KeptV)(f:∀p∈X,p.told.length=32):∀(i:Nat) (x:KeptV),X[i]? = some x→∃R,(X.flatMap KeptV.cells).drop (i*34)=x.cells++R:=by
 induction X with
 | nil=>intro i x h;simp at h
 | cons y X o =>
  intro i x h
  have m:y.cells.length=34:=y.len (f y (List.mem_cons_self ..))
  cases i with
  | zero =>
   simp only[List.getElem?_cons_zero,Option.some.injEq] at h
   subst h
   exact⟨X.flatMap KeptV.cells,by simp⟩
  | succ i =>
   rw[List.getElem?_cons_succ] at h
   obtain⟨R,g⟩:=o (fun p l=>f p (List.mem_cons_of_mem _ l)) i x h
   refine⟨R,?_⟩
   rw[List.flatMap_cons,Nat.add_mul,Nat.one_mul,Nat.add_comm (i*34) 34,←List.drop_drop,qp4 m,g]
theorem ChP.kept{w:World}{g:Nat}{S:Nat→Prop}{c:Ch}{f nv l:Value}(h:ChP w g S c f nv l){i:Nat}{p:KeptV}(q:c.shelf[i]? = some p):zx w g (48+i*34) 34=some p.cells.toArray:=by
 have C:=h.ok.s.seed
 have D:=(List.getElem?_eq_some_iff.1 q).1
 have x:=h.ok.shelf.2 p (List.mem_of_getElem? q)
 have o:c.s.cells.length=37:=c.s.len C
 have F:(c.shelf.flatMap KeptV.cells).length=578:=by rw[qiv _ h.ok.shelf.2,h.ok.shelf.1]
 have t:(c.v f nv l).cells=(c.s.cells++(c.k.cells++[.int .u64 c.loc,.int .u64 c.rem,f]))++(c.shelf.flatMap KeptV.cells++[nv,l]):=by
  show c.s.cells++(c.k.cells++(Value.int .u64 c.loc :: .int .u64 c.rem::f::(c.shelf.flatMap KeptV.cells++[nv,l])))=_
  simp
 have m:(c.s.cells++(c.k.cells++[.int .u64 c.loc,.int .u64 c.rem,f])).length=48:=by
  rw[List.length_append,List.length_append,o]
  rfl
 have y:=h.ok.shelf.1
 have E:48+i*34+34≤(c.v f nv l).cells.toArray.size:=by
  rw[List.size_toArray,t,List.length_append,m,List.length_append,F]
  show 48+i*34+34≤48+(578+2)
  omega
 rw[qca h.at_ _ 34 E]
 congr 1
 apply Array.ext'
 rw[Array.toList_extract,t]
 show List.extract (_++_) (48+i*34) (48+i*34+34)=_
 rw[List.extract_eq_take_drop,Nat.add_sub_cancel_left,←List.drop_drop,qp4 m]
 obtain⟨R,z⟩:=qz5 c.shelf h.ok.shelf.2 i p q
 rw[List.drop_append_of_le_length (by omega),z,List.append_assoc,List.take_append_of_le_length (by rw[p.len x];exact Nat.le_refl _),List.take_of_length_le (by rw[p.len x];exact Nat.le_refl _)]
def qmm(told:List Int)(i:Int)(ps:List KeptV):Option KeptV:=ps.find? fun k=>k.full&&qh5 told i k
def q43(told:List Int)(i:Int)(ps:List KeptV):KeptV:=(qmm told i ps).getD KeptV.zero
set_option maxRecDepth 100000 in
set_option maxHeartbeats 1000000 in
theorem q0w(g:Nat)(S:Nat→Prop)(c:Ch)(lv nv av:Value)(n:Nat)(told:List Int)(ht:told.length=32)(hb:qa6 told)(i:Int)(A I:Nat)(w:World)(h:ChP w g S c lv nv av)(a4:∀p∈c.shelf,qa6 p.told)(hn:n≤17)
  (hA:HsB w A told) (hI:w.cell? ⟨I,0,none⟩=some (.int .i64 i)) (hT:Tabs w) (hD:Deb w) :
  Calls Tryz.prog 124 #[.pointer (some ⟨g,48,none⟩),.int .i64 n,.func (.func 125) #[] #[.pointer (some ⟨A,0,none⟩),.pointer (some ⟨I,0,none⟩)]] w (qa7 (.tuple #[.agg (q43 told i (c.shelf.take n)).cells.toArray,.bool (qmm told i (c.shelf.take n)).isSome]) w):=by
 have b3:(n:Int)≤17:=by omega
 go_enter Tryz.func124,Tryz.ntmps124
 go_upto_region 1 with fail
 have T:=qmj w KeptV.zero KeptV.zero_len
 have y:qy w (w.alloc (.cells KeptV.zero.cells.toArray 87)):=(Upd.refl _ _).alloc _
 generalize w.alloc (.cells KeptV.zero.cells.toArray 87)=w1 at T y ⊢
 obtain⟨R,H⟩:∃R,R=w.heap.size:=⟨_,rfl⟩
 rw[←H] at T ⊢
 have a7:w.heap.size≤R:=by omega
 clear H
 have H1:=qb (h.new y)
 have HA:=qb (hA.new y)
 have HI:=qb (y.cell hI (fun h=>h))
 have HT:=qb (hT.new y)
 have HD:=qb (hD.new y)
 have HR:=qb T
 have HN:=qb y
 clear h hA hI hT hD T y
 go_wp2_with fail
 go_loopw [9,16] (fun _ iv wr=>∃j:Nat,iv = .int .i64 (j:Int)∧j≤n∧Hid (qmm told i (c.shelf.take j)=none)∧qy w1 wr) (fun _ iv _=>n-(intOf iv).toNat)
 case atStart=>exact⟨0,rfl,Nat.zero_le _,qb rfl,Upd.refl _ _⟩
 case round =>
  obtain⟨j,rfl,hj,o,F⟩:=hrel
  obtain⟨q,rfl⟩:∃q:World,q=wr:=⟨_,rfl⟩
  by_cases a9:j<n
  ·have P:=(qa H1).new F
   have Z:=P.ok.shelf.1
   obtain⟨p,N⟩:∃p,c.shelf[j]? = some p:=⟨_,List.getElem?_eq_getElem (by omega)⟩
   have C:=List.mem_of_getElem? N
   have m:=P.ok.shelf.2 p C
   have a5:=a4 p C
   have O:=P.kept N
   have ha:=qmj q KeptV.zero KeptV.zero_len
   have D:=ha.stOk m
   have x:=ha.put m
   have z:qy q ((q.alloc (.cells KeptV.zero.cells.toArray 87)).setCells q.heap.size 0 p.cells):=(((Upd.refl (fun _=>False) q).alloc _)).then (qak _) (fun i hi e=>by omega)
   have a8:(j:Int)<(n:Int):=by omega
   have M:qmm told i (c.shelf.take (j+1))=if (p.full&&qh5 told i p)=true then some p else none:=by
    unfold qmm at o ⊢
    rw[List.take_add_one,N,List.find?_append,qa o]
    simp only[Option.none_or,Option.toList_some,List.find?_cons,List.find?_nil]
    cases (p.full&&qh5 told i p)<;>rfl
   have v:=qb M
   have a6:=qb N
   clear P C ha M N Z
   go_upto_region 4 with fail
   have E:=qb x
   have f:=F.trans z
   generalize (q.alloc (.cells KeptV.zero.cells.toArray 87)).setCells q.heap.size 0 p.cells=w5 at E f ⊢
   generalize q.heap.size=K at E ⊢
   clear D x z O F
   have Y:=(qa E).c0
   cases U:p.full with
   | false =>
    rw[U] at Y
    rw[U,Bool.false_and] at v
    go_wp2_with fail
    go_roundw
    case rel=>exact⟨j+1,by go_num,by omega,by rw[if_neg (by decide)] at v;exact v,f⟩
    case measure=>simp[intOf];omega
   | true =>
    rw[U] at Y
    rw[U,Bool.true_and] at v
    have rK:=(qa E).row
    have J:=qxu told ht hb i p m a5 A I w5 ((qa HA).new f) (f.cell (qa HI) (fun h=>h)) ((qa HT).new f) ((qa HD).new f)
    go_wp2_with fail
    refine J.mono ?_
    rintro e w6 ⟨rfl,n6⟩
    have t:=f.trans n6
    have V:=qb ((qa E).new n6)
    clear J rK Y E
    cases ho:qh5 told i p with
    | false =>
     rw[ho,if_neg (by decide)] at v
     go_wp2_with fail
     go_roundw
     case rel=>exact⟨j+1,by go_num,by omega,v,t⟩
     case measure=>simp[intOf];omega
    | true =>
     rw[ho,if_pos rfl] at v
     have b4:=(qa V).row
     have l:=(qa HR).new t
     have D:=l.stOk m
     have W:=qb (l.put m)
     have X:=qb (((qa HN).trans t).then (qak (w:=w6) (b:=R) p.cells) (fun i hi e=>by omega))
     clear l f n6 t
     go_wp2_with fail
     have hF:=qa W
     refine bodyPost_ret (qw rfl _ _ R _ _ _ _ rfl hF.at_ Tryz.underlying87 rfl (by rw[List.size_toArray,p.len m];exact Tryz.infoKpt)) rfl ?_
     have L:qmm told i (c.shelf.take n)=some p:=by
      have e:c.shelf.take n=c.shelf.take (j+1)++(c.shelf.drop (j+1)).take (n-(j+1)):=by
       rw[←List.take_add,Nat.add_sub_cancel' (by omega)]
      have h0:=qa v
      unfold qmm at h0 ⊢
      rw[e,List.find?_append,h0]
      rfl
     refine⟨?_,qa X⟩
     unfold q43
     rw[L]
     rfl
  ·obtain rfl:j=n:=by omega
   have l:=(qa HR).new F
   have D:=l.stOk KeptV.zero_len
   have W:=qb (l.put KeptV.zero_len)
   have X:=qb (((qa HN).trans F).then (qak (w:=q) (b:=R) KeptV.zero.cells) (fun i hi e=>by omega))
   clear l F
   go_wp2_with fail
   have hF:=qa W
   refine bodyPost_ret (qw rfl _ _ R _ _ _ _ rfl hF.at_ Tryz.underlying87 rfl (by rw[List.size_toArray,KeptV.zero.len KeptV.zero_len];exact Tryz.infoKpt)) rfl ?_
   refine⟨?_,qa X⟩
   unfold q43
   rw[qa o]
   rfl
end Go.Proofs.YtjpmomdechibmaaGreatDoor
namespace Go.Proofs.YtjpmomdechibmaaGreatDoor
open Go.RowKit
theorem qtc(P Z R Q:List Value)(o:Nat)(i:P.length=o)(h:Z.length=Q.length):qkl (P++(Z++R)).toArray o Q=(P++(Q++R)).toArray:=by
 apply Array.ext'
 apply List.ext_getElem?
 intro j
 have f:(P++(Z++R)).toArray.size=P.length+(Z.length+R.length):=by simp
 rw[Array.getElem?_toList,qif _ _ _ _ (by rw[f];omega),List.getElem?_toArray]
 by_cases g:o≤j∧j<o+Q.length
 ·rw[if_pos g,List.getElem?_append_right (by omega),List.getElem?_append_left (by omega),i]
 ·rw[if_neg g]
  by_cases l:j<o
  ·rw[List.getElem?_append_left (by omega),List.getElem?_append_left (by omega)]
  ·rw[List.getElem?_append_right (by omega),List.getElem?_append_right (by omega),List.getElem?_append_right (by omega),List.getElem?_append_right (by omega),h]
theorem q2q(X:List KeptV){i:Nat}{x:KeptV}(h:X[i]? = some x):X.flatMap KeptV.cells=(X.take i).flatMap KeptV.cells++(x.cells++(X.drop (i+1)).flatMap KeptV.cells):=by
 have f:=(List.getElem?_eq_some_iff.1 h).1
 have g:=(List.getElem?_eq_some_iff.1 h).2
 conv=>lhs;rw[←List.take_append_drop i X]
 rw[List.flatMap_append,List.drop_eq_getElem_cons f,g,List.flatMap_cons]
theorem ChP.putKept{w:World}{g:Nat}{S:Nat→Prop}{c:Ch}{f nv l:Value}(h:ChP w g S c f nv l){i:Nat}{p k:KeptV}(D:c.shelf[i]? = some p)(o:k.told.length=32) :
  stOk w g (48+i*34) 34 k.cells.toArray=true∧ChP (w.setCells g (48+i*34) k.cells) g S {c with shelf:=c.shelf.set i k} f nv l:=by
 have R:=h.ok.s.seed
 have E:=(List.getElem?_eq_some_iff.1 D).1
 have M:=h.ok.shelf.2 p (List.mem_of_getElem? D)
 have C:c.s.cells.length=37:=c.s.len R
 have z:=h.ok.shelf.1
 have t:(c.s.cells++(c.k.cells++[.int .u64 c.loc,.int .u64 c.rem,f])).length=48:=by
  rw[List.length_append,List.length_append,C]
  rfl
 have I:((c.shelf.take i).flatMap KeptV.cells).length=i*34:=by
  rw[qiv _ (fun q F=>h.ok.shelf.2 q (List.mem_of_mem_take F)),List.length_take,Nat.min_eq_left (by omega)]
 have y:∀(s:List KeptV),(({c with shelf:=s} : Ch).v f nv l).cells=(c.s.cells++(c.k.cells++[.int .u64 c.loc,.int .u64 c.rem,f]))++(s.flatMap KeptV.cells++[nv,l]):=by
  intro s
  show c.s.cells++(c.k.cells++(Value.int .u64 c.loc :: .int .u64 c.rem::f::(s.flatMap KeptV.cells++[nv,l])))=_
  simp
 have K:(c.v f nv l).cells=((c.s.cells++(c.k.cells++[.int .u64 c.loc,.int .u64 c.rem,f]))++(c.shelf.take i).flatMap KeptV.cells)++(p.cells++((c.shelf.drop (i+1)).flatMap KeptV.cells++[nv,l])):=by
  refine(y c.shelf).trans ?_
  rw[q2q c.shelf D]
  simp only[List.append_assoc]
 have x:(c.shelf.set i k)[i]? = some k:=by rw[List.getElem?_set_self E]
 have O:(({c with shelf:=c.shelf.set i k} : Ch).v f nv l).cells=((c.s.cells++(c.k.cells++[.int .u64 c.loc,.int .u64 c.rem,f]))++(c.shelf.take i).flatMap KeptV.cells)++(k.cells++((c.shelf.drop (i+1)).flatMap KeptV.cells++[nv,l])):=by
  refine(y _).trans ?_
  rw[q2q (c.shelf.set i k) x,List.take_set_of_le (Nat.le_refl _),List.drop_set_of_lt (by omega)]
  simp only[List.append_assoc]
 have L:((c.s.cells++(c.k.cells++[.int .u64 c.loc,.int .u64 c.rem,f]))++(c.shelf.take i).flatMap KeptV.cells).length=48+i*34:=by
  rw[List.length_append,t,I]
 have H:48+i*34+34≤(c.v f nv l).cells.toArray.size:=by
  rw[List.size_toArray,K,List.length_append,L,List.length_append,p.len M]
  omega
 have m:=qa9 h.at_ (48+i*34) k.cells
 rw[K,qtc _ _ _ _ _ L (by rw[p.len M,k.len o]),←O] at m
 refine⟨qff h.at_ H (by rw[List.size_toArray,k.len o]) (by rw[Array.all_eq_true_iff_forall_mem];intro v V;exact k.one v (by simpa using V)),?_⟩
 have u:Upd (· = g) w (w.setCells g (48+i*34) k.cells):=(Upd.refl _ _).setCells _ _
 have J:∀ {T:TypeId} {v:Value} {n:Nat} {xs:List Value},T≠92→w.ownsRow 0 T 38 v n xs→∀k,v.ownBlock=some k→¬k=g:=by
  intro T v n xs P U k o e
  obtain⟨N,y⟩:=q8 U k o
  exact ze y h.at_ P e
 refine⟨m,⟨h.ok.s,h.ok.signed,h.ok.heard,h.ok.nextOwn,h.ok.nextTheirs,h.ok.loc,h.ok.rem,h.ok.xs,h.ok.few,?_,h.ok.news,h.ok.last,h.ok.many⟩,?_,?_,?_,h.inG,h.inL,h.inN,h.inA,h.sep,fun k o=>Nat.lt_of_lt_of_le (h.lt k o) u.size⟩
 ·refine⟨by show (c.shelf.set i k).length=17;rw[List.length_set];exact z,fun q F=> ?_⟩
  rcases List.mem_or_eq_of_mem_set F with e | e
  ·exact h.ok.shelf.2 q e
  ·rw[e];exact o
 ·exact qu h.live u (J (by decide) h.live)
 ·exact qu h.news u (J (by decide) h.news)
 ·exact qu h.last u (J (by decide) h.last)
attribute [local go_sem ↓ high] qaa qap qar qa1 qom qou qn3 qn5 qkr
attribute [local go_sem] qcx qdn qdt qfm zq q8j q91 q6r qn6
def qh2(told:List Int)(i:Int)(ps:List KeptV):Int:=if qma i i=false then 1 else if (qmm told i (ps.take (qbk i))).isSome=true then 50 else 0
def qu8(told:List Int)(i:Int)(ps:List KeptV):List KeptV:=if qh2 told i ps=0 then ps.set (qbk i) ⟨true,i,told⟩ else ps
set_option maxRecDepth 100000 in
set_option maxHeartbeats 1000000 in
theorem q0k(g:Nat)(S:Nat→Prop)(c:Ch)(lv nv av:Value)(told:List Int)(ht:told.length=32)(hb:qa6 told)(i:Int)(w:World)(h:ChP w g S c lv nv av)(a5:∀p∈c.shelf,qa6 p.told)(hT:Tabs w)(hD:Deb w) :
  Calls Tryz.prog 104 #[.pointer (some ⟨g,48,none⟩),.int .i64 i,.agg (zf told).toArray] w fun e w' =>
   e = .returned (.int .i64 (qh2 told i c.shelf))∧ChP w' g S {c with shelf:=qu8 told i c.shelf} lv nv av∧Upd (· = g) w w':=by
 go_enter Tryz.func104,Tryz.ntmps104
 go_upto_region 1 with fail
 have t:((w.alloc (.cells #[.int .i64 i] 3)).alloc (.cells (zf told).toArray 28)).cell? ⟨w.heap.size,0,none⟩=some (.int .i64 i):=by
  rw[qh (zl (qi _ _) _)];rfl
 have N:=qb9 (w.alloc (.cells #[.int .i64 i] 3)) told ht
 rw[World.size_alloc] at N
 have D:qy w ((w.alloc (.cells #[.int .i64 i] 3)).alloc (.cells (zf told).toArray 28)):=((Upd.refl _ _).alloc _).alloc _
 generalize (w.alloc (.cells #[.int .i64 i] 3)).alloc (.cells (zf told).toArray 28)=w1 at t N D ⊢
 have V:=h.lt g h.inG
 obtain⟨I,R⟩:∃I,I=w.heap.size:=⟨_,rfl⟩
 obtain⟨A,O⟩:∃A,A=w.heap.size+1:=⟨_,rfl⟩
 rw[←O] at N ⊢
 rw[←R] at t ⊢
 have b3:g≠A:=by omega
 have b4:g≠I:=by omega
 clear R O V
 have y:=q2g i i w1 (hD.new D)
 have J:=qb (h.new D)
 have HA:=qb N
 have HT:=qb (hT.new D)
 have HD:=qb (hD.new D)
 have HN:=qb D
 have a7:=h.ok.shelf.1
 have X:qh2 told i c.shelf=if qma i i=false then 1 else if (qmm told i (c.shelf.take (qbk i))).isSome=true then 50 else 0:=rfl
 have Y:qu8 told i c.shelf=if qh2 told i c.shelf=0 then c.shelf.set (qbk i) ⟨true,i,told⟩ else c.shelf:=rfl
 have f:=qb X
 have l:=qb Y
 have b5:=qlb i
 clear h N hT hD D X Y
 go_wp2_with fail
 refine y.mono ?_
 rintro e w2 ⟨rfl,q2⟩
 have m:=q2.cell t
 have F:qy w1 w2:=q2.upd _
 clear y t
 cases hc:qma i i with
 | false =>
  rw[hc,if_pos rfl] at f
  rw[qa f,if_neg (by decide)] at l
  have M:=qb (((qa HN).trans F).mono (T:=(· = g)) (fun _ _ h=>h.elim))
  have H2:=qb ((qa J).new F)
  clear q2 F m
  go_wp2_with fail
  go_ret
  rw[qa l,qa f]
  exact⟨rfl,qa H2,qa M⟩
 | true =>
  rw[hc,if_neg (by decide)] at f
  have hp:=qju i w2 ((qa HD).new F)
  go_upto_region 3 with fail
  have N2:=qb F
  clear q2 F
  go_wp2_with fail
  refine hp.mono ?_
  rintro e w3 ⟨rfl,q3⟩
  have H:qy w1 w3:=(qa N2).trans (q3.upd _)
  have o:=q3.cell m
  have Z:=q0w g S c lv nv av (qbk i) told ht hb i A I w3 ((qa J).new H) a5 (by omega) ((qa HA).new H) o ((qa HT).new H) ((qa HD).new H)
  have N3:=qb H
  clear hp H q3 m hc
  have a6:(q43 told i (c.shelf.take (qbk i))).told.length=32:=by
   unfold q43
   cases e:qmm told i (c.shelf.take (qbk i)) with
   | none=>exact KeptV.zero_len
   | some p =>
    unfold qmm at e
    exact(qa J).ok.shelf.2 p (List.mem_of_mem_take (List.mem_of_find?_eq_some e))
  generalize q43 told i (c.shelf.take (qbk i))=K at *
  generalize qmm told i (c.shelf.take (qbk i))=L at *
  generalize qbk i=P at *
  go_upto_region 4 with fail
  go_wp2_with fail
  refine Z.mono ?_
  rintro e C ⟨rfl,n4⟩
  have v:=n4.cell o (fun h=>h)
  have ha:=qmj C KeptV.zero KeptV.zero_len
  have a4:=ha.stOk a6
  have q:qy C ((C.alloc (.cells KeptV.zero.cells.toArray 87)).setCells C.heap.size 0 K.cells):=(((Upd.refl (fun _=>False) C).alloc _)).then (qak _) (fun i hi e=>by omega)
  have n5:=((qa N3).trans n4).trans q
  have x:=q.cell v (fun h=>h)
  have E:=qb n5
  clear Z n4 ha q n5 o v
  go_upto_region 5 with fail
  generalize (C.alloc (.cells KeptV.zero.cells.toArray 87)).setCells C.heap.size 0 K.cells=w5 at x E ⊢
  clear a4
  generalize C.heap.size=k5
  cases hL:L.isSome with
  | true =>
   rw[hL,if_pos rfl] at f
   rw[qa f,if_neg (by decide)] at l
   have M:=qb (((qa HN).trans (qa E)).mono (T:=(· = g)) (fun _ _ h=>h.elim))
   have H5:=qb ((qa J).new (qa E))
   clear x
   go_wp2_with fail
   go_ret
   rw[qa l,qa f]
   exact⟨rfl,qa H5,qa M⟩
  | false =>
   rw[hL,if_neg (by decide)] at f
   rw[qa f,if_pos rfl] at l
   go_upto_region 7 with fail
   have nd:qy w5 w5.drew:=(Upd.refl _ _).drew
   have U:=((qa J).new (qa E)).new nd
   obtain⟨p,hp⟩:∃p,c.shelf[P]? = some p:=⟨_,List.getElem?_eq_getElem (by omega)⟩
   obtain⟨a4,z⟩:=U.putKept hp (k:=⟨true,i,told⟩) ht
   have a9:=fun W=>zdw true i told ht W
   have rA:=((qa HA).new (qa E)).row
   have HP:=qb z
   have u6:Upd (· = g) w5.drew (w5.drew.setCells g (48+P*34) (KeptV.cells ⟨true,i,told⟩)):=(Upd.refl _ _).setCells _ _
   have M:=qb (((((qa HN).trans (qa E)).trans nd).mono (T:=(· = g)) (fun _ _ h=>h.elim)).trans u6)
   have a8:(P:Int)≤16:=by omega
   clear z U hp nd u6
   go_wp2_with (with_reducible first|(first|refine' zr (qg ?_) ?_|refine' zt (qg ?_) ?_);rotate_left|refine' zu (qg ?_)|rfl|apply tn|refine' zv ?_)
   go_ret
   rw[qa l,qa f]
   exact⟨rfl,qa HP,qa M⟩
end Go.Proofs.YtjpmomdechibmaaGreatDoor
namespace Go.Proofs.YtjpmomdechibmaaGreatDoor
open Go.RowKit
inductive Fld where
 | ch
 | id
 | amount
 | hash
 | expiry
 | number
def Fld.zero(x:Fld)(m:MsgV):MsgV :=
 match x with
 | .ch=> {m with ch:=0}
 | .id=> {m with id:=0}
 | .amount=> {m with amount:=0}
 | .hash=> {m with hash:=qad}
 | .expiry=> {m with expiry:=0}
 | .number=> {m with number:=0}
def qi0(base:Nat)(w:World)(v:Value)(f F:FuncId)(n:Int):Prop :=
 ∃p q,v = .func (.func f) #[] #[.pointer (some ⟨p,0,none⟩),.pointer (some ⟨q,0,none⟩)]∧base≤p∧base≤q∧w.cell? ⟨p,0,none⟩=some (.func (.func F) #[] #[])∧w.cell? ⟨q,0,none⟩=some (.int .i64 n)
def qj6(base:Nat)(w:World)(v:Value)(x:Fld):Prop :=
 match x with
 | .ch=>qi0 base w v 134 120 4
 | .id=>qi0 base w v 115 96 8
 | .amount=>qi0 base w v 115 97 8
 | .hash=>v = .func (.func 102) #[] #[]
 | .expiry=>qi0 base w v 118 99 4
 | .number=>qi0 base w v 118 100 2
theorem qi0.upd{base:Nat}{w w':World}{v:Value}{f F:FuncId}{n:Int}{S:Nat→Prop}(h:qi0 base w v f F n)(u:Upd S w w')(g:∀k,base≤k→¬S k):qi0 base w' v f F n:=by
 obtain⟨p,q,e,i,l,m,o⟩:=h
 exact⟨p,q,e,i,l,u.cell m (g p i),u.cell o (g q l)⟩
theorem qj6.upd{base:Nat}{w w':World}{v:Value}{x:Fld}{S:Nat→Prop}(h:qj6 base w v x)(u:Upd S w w')(f:∀k,base≤k→¬S k):qj6 base w' v x:=by
 cases x<;>first | exact qi0.upd h u f | exact h
theorem qj6.new{base:Nat}{w w':World}{v:Value}{x:Fld}(h:qj6 base w v x)(u:qy w w'):qj6 base w' v x:=h.upd u (fun _ _ h=>h)
theorem qi0.one{base:Nat}{w:World}{v:Value}{f F:FuncId}{n:Int}(h:qi0 base w v f F n):v.oneCell'=true:=by
 obtain⟨p,q,rfl,_⟩:=h
 rfl
theorem qj6.one{base:Nat}{w:World}{v:Value}{x:Fld}(h:qj6 base w v x):v.oneCell'=true:=by
 cases x<;>first | exact qi0.one h | (have h:v=_:=h;rw[h];rfl)
theorem zeu(m:MsgV)(n:Int):m.cells.toArray.setIfInBounds 1 (.int .u32 n)=({m with ch:=n} : MsgV).cells.toArray:=rfl
theorem zew(m:MsgV)(n:Int):m.cells.toArray.setIfInBounds 2 (.int .u64 n)=({m with id:=n} : MsgV).cells.toArray:=rfl
theorem q1k(m:MsgV)(n:Int):m.cells.toArray.setIfInBounds 3 (.int .u64 n)=({m with amount:=n} : MsgV).cells.toArray:=rfl
theorem qx3(m:MsgV)(h:m.hash.length=32):m.cells=(.int .i64 m.kind :: .int .u32 m.ch :: .int .u64 m.id :: .int .u64 m.amount::zf m.hash)++[.int .i64 m.expiry,.int .i64 m.number]:=rfl
theorem q1m(m:MsgV)(h:m.hash.length=32)(n:Int):m.cells.toArray.setIfInBounds 36 (.int .i64 n)=({m with expiry:=n} : MsgV).cells.toArray:=by
 rw[List.setIfInBounds_toArray,qx3 m h,List.set_append_right _ _ (by simp[zf,h])]
 congr 1
 show _=(.int .i64 m.kind :: .int .u32 m.ch :: .int .u64 m.id :: .int .u64 m.amount::zf m.hash)++[.int .i64 n,.int .i64 m.number]
 simp[zf,h]
theorem q1n(m:MsgV)(h:m.hash.length=32)(n:Int):m.cells.toArray.setIfInBounds 37 (.int .i64 n)=({m with number:=n} : MsgV).cells.toArray:=by
 rw[List.setIfInBounds_toArray,qx3 m h,List.set_append_right _ _ (by simp[zf,h])]
 congr 1
 show _=(.int .i64 m.kind :: .int .u32 m.ch :: .int .u64 m.id :: .int .u64 m.amount::zf m.hash)++[.int .i64 m.expiry,.int .i64 n]
 simp[zf,h]
theorem q9p(m:MsgV)(h:m.hash.length=32)(k:List Int)(f:k.length=32):qkl m.cells.toArray 4 (zf k)=({m with hash:=k} : MsgV).cells.toArray :=
 qtc [.int .i64 m.kind,.int .u32 m.ch,.int .u64 m.id,.int .u64 m.amount] (zf m.hash) [.int .i64 m.expiry,.int .i64 m.number] (zf k) 4 rfl (by rw[qa4,qa4,h,f])
attribute [local go_sem ↓ high] qaa qap qar qa1
attribute [local go_sem] qcx qdn qdt qfm zq
theorem za9(A:Nat)(w:World):Calls Tryz.prog 96 #[.pointer (some ⟨A,0,none⟩)] w (qcc (.pointer (some ⟨A,2,none⟩)) w):=by
 go_enter Tryz.func96,Tryz.ntmps96
 go_wp2_with fail
 go_ret
 exact⟨rfl,Q.refl _⟩
theorem zba(A:Nat)(w:World):Calls Tryz.prog 97 #[.pointer (some ⟨A,0,none⟩)] w (qcc (.pointer (some ⟨A,3,none⟩)) w):=by
 go_enter Tryz.func97,Tryz.ntmps97
 go_wp2_with fail
 go_ret
 exact⟨rfl,Q.refl _⟩
theorem zbb(A:Nat)(w:World):Calls Tryz.prog 99 #[.pointer (some ⟨A,0,none⟩)] w (qcc (.pointer (some ⟨A,36,none⟩)) w):=by
 go_enter Tryz.func99,Tryz.ntmps99
 go_wp2_with fail
 go_ret
 exact⟨rfl,Q.refl _⟩
theorem zbc(A:Nat)(w:World):Calls Tryz.prog 100 #[.pointer (some ⟨A,0,none⟩)] w (qcc (.pointer (some ⟨A,37,none⟩)) w):=by
 go_enter Tryz.func100,Tryz.ntmps100
 go_wp2_with fail
 go_ret
 exact⟨rfl,Q.refl _⟩
theorem zbd(A:Nat)(w:World):Calls Tryz.prog 120 #[.pointer (some ⟨A,0,none⟩)] w (qcc (.pointer (some ⟨A,1,none⟩)) w):=by
 go_enter Tryz.func120,Tryz.ntmps120
 go_wp2_with fail
 go_ret
 exact⟨rfl,Q.refl _⟩
def qio:Value:= .agg #[.pointer none,.pointer none]
set_option maxRecDepth 100000 in
set_option maxHeartbeats 1000000 in
theorem qoz(F:FuncId)(o A p q:Nat)(x:Int)(m:MsgV)(w:World)(O:∀args w,(callFunc F args).run Tryz.prog w = .ok (.enter F args) w)(I:∀w,Calls Tryz.prog F #[.pointer (some ⟨A,0,none⟩)] w (qcc (.pointer (some ⟨A,o,none⟩)) w))(C:w.cell? ⟨p,0,none⟩=some (.func (.func F) #[] #[]))(z:MsB w A m)(J:m.cells[o]? = some (.int .u64 x)) :
  Calls Tryz.prog 115 #[qio,.pointer (some ⟨A,0,none⟩),.pointer (some ⟨p,0,none⟩),.pointer (some ⟨q,0,none⟩)] w fun e w'=>e = .returned (.tuple #[])∧∃w1,qy w w1∧w'=w1.setCell ⟨A,o,none⟩ (.int .u64 0):=by
 unfold qio
 go_enter Tryz.func115,Tryz.ntmps115
 go_upto_region 1 with fail
 have g:qy w (w.alloc (.cells #[.pointer none,.pointer none] 138)):=(Upd.refl _ _).alloc _
 have t:=qi w (.cells #[.pointer none,.pointer none] 138)
 generalize w.alloc (.cells #[.pointer none,.pointer none] 138)=w1 at g t ⊢
 generalize w.heap.size=B at t ⊢
 have y:=g.cell C (fun h=>h)
 have E:=qb (z.new g)
 have v:=qb t
 clear t C z
 go_wp2_with fail
 refine(I w1).mono ?_
 rintro e l ⟨rfl,i⟩
 have D:qy w l:=g.trans (i.upd _)
 have f:=(qa E).new (i.upd _)
 have L:l.cell? ⟨B,0,none⟩=some (.pointer none):=i.cell (qh (qa v) 0)
 have M:l.cell? ⟨B,1,none⟩=some (.pointer none):=i.cell (qh (qa v) 1)
 have K:l.cell? ⟨A,o,none⟩=some (.int .u64 x):=by rw[qh f.at_,List.getElem?_toArray];exact J
 have N:l.frozen? ⟨A,o,none⟩=false:=qq f.at_ o
 have H:=qb D
 clear f i D g y v
 go_wp2_with (with_reducible first|(first|refine' zr (qg ?_) ?_|refine' zt (qg ?_) ?_);rotate_left|refine' zu (qg ?_)|rfl|apply tn|refine' zv ?_)
 go_end0
 exact⟨rfl,_,qa H,rfl⟩
set_option maxRecDepth 100000 in
set_option maxHeartbeats 1000000 in
theorem qoy(F:FuncId)(o A p q:Nat)(x:Int)(m:MsgV)(w:World)(O:∀args w,(callFunc F args).run Tryz.prog w = .ok (.enter F args) w)(I:∀w,Calls Tryz.prog F #[.pointer (some ⟨A,0,none⟩)] w (qcc (.pointer (some ⟨A,o,none⟩)) w))(C:w.cell? ⟨p,0,none⟩=some (.func (.func F) #[] #[]))(z:MsB w A m)(J:m.cells[o]? = some (.int .i64 x)) :
  Calls Tryz.prog 118 #[qio,.pointer (some ⟨A,0,none⟩),.pointer (some ⟨p,0,none⟩),.pointer (some ⟨q,0,none⟩)] w fun e w'=>e = .returned (.tuple #[])∧∃w1,qy w w1∧w'=w1.setCell ⟨A,o,none⟩ (.int .i64 0):=by
 unfold qio
 go_enter Tryz.func118,Tryz.ntmps118
 go_upto_region 1 with fail
 have g:qy w (w.alloc (.cells #[.pointer none,.pointer none] 138)):=(Upd.refl _ _).alloc _
 have t:=qi w (.cells #[.pointer none,.pointer none] 138)
 generalize w.alloc (.cells #[.pointer none,.pointer none] 138)=w1 at g t ⊢
 generalize w.heap.size=B at t ⊢
 have y:=g.cell C (fun h=>h)
 have E:=qb (z.new g)
 have v:=qb t
 clear t C z
 go_wp2_with fail
 refine(I w1).mono ?_
 rintro e l ⟨rfl,i⟩
 have D:qy w l:=g.trans (i.upd _)
 have f:=(qa E).new (i.upd _)
 have L:l.cell? ⟨B,0,none⟩=some (.pointer none):=i.cell (qh (qa v) 0)
 have M:l.cell? ⟨B,1,none⟩=some (.pointer none):=i.cell (qh (qa v) 1)
 have K:l.cell? ⟨A,o,none⟩=some (.int .i64 x):=by rw[qh f.at_,List.getElem?_toArray];exact J
 have N:l.frozen? ⟨A,o,none⟩=false:=qq f.at_ o
 have H:=qb D
 clear f i D g y v
 go_wp2_with (with_reducible first|(first|refine' zr (qg ?_) ?_|refine' zt (qg ?_) ?_);rotate_left|refine' zu (qg ?_)|rfl|apply tn|refine' zv ?_)
 go_end0
 exact⟨rfl,_,qa H,rfl⟩
set_option maxRecDepth 100000 in
set_option maxHeartbeats 1000000 in
theorem qzf(F:FuncId)(o A p q:Nat)(x:Int)(m:MsgV)(w:World)(O:∀args w,(callFunc F args).run Tryz.prog w = .ok (.enter F args) w)(I:∀w,Calls Tryz.prog F #[.pointer (some ⟨A,0,none⟩)] w (qcc (.pointer (some ⟨A,o,none⟩)) w))(C:w.cell? ⟨p,0,none⟩=some (.func (.func F) #[] #[]))(z:MsB w A m)(J:m.cells[o]? = some (.int .u32 x)) :
  Calls Tryz.prog 134 #[qio,.pointer (some ⟨A,0,none⟩),.pointer (some ⟨p,0,none⟩),.pointer (some ⟨q,0,none⟩)] w fun e w'=>e = .returned (.tuple #[])∧∃w1,qy w w1∧w'=w1.setCell ⟨A,o,none⟩ (.int .u32 0):=by
 unfold qio
 go_enter Tryz.func134,Tryz.ntmps134
 go_upto_region 1 with fail
 have g:qy w (w.alloc (.cells #[.pointer none,.pointer none] 138)):=(Upd.refl _ _).alloc _
 have t:=qi w (.cells #[.pointer none,.pointer none] 138)
 generalize w.alloc (.cells #[.pointer none,.pointer none] 138)=w1 at g t ⊢
 generalize w.heap.size=B at t ⊢
 have y:=g.cell C (fun h=>h)
 have E:=qb (z.new g)
 have v:=qb t
 clear t C z
 go_wp2_with fail
 refine(I w1).mono ?_
 rintro e l ⟨rfl,i⟩
 have D:qy w l:=g.trans (i.upd _)
 have f:=(qa E).new (i.upd _)
 have L:l.cell? ⟨B,0,none⟩=some (.pointer none):=i.cell (qh (qa v) 0)
 have M:l.cell? ⟨B,1,none⟩=some (.pointer none):=i.cell (qh (qa v) 1)
 have K:l.cell? ⟨A,o,none⟩=some (.int .u32 x):=by rw[qh f.at_,List.getElem?_toArray];exact J
 have N:l.frozen? ⟨A,o,none⟩=false:=qq f.at_ o
 have H:=qb D
 clear f i D g y v
 go_wp2_with (with_reducible first|(first|refine' zr (qg ?_) ?_|refine' zt (qg ?_) ?_);rotate_left|refine' zu (qg ?_)|rfl|apply tn|refine' zv ?_)
 go_end0
 exact⟨rfl,_,qa H,rfl⟩
set_option maxRecDepth 100000 in
set_option maxHeartbeats 1000000 in
theorem qv4(A:Nat)(m:MsgV)(w:World)(l:MsB w A m) :
  Calls Tryz.prog 102 #[qio,.pointer (some ⟨A,0,none⟩)] w fun e w'=>e = .returned (.tuple #[])∧∃w1,qy w w1∧w'=w1.setCells A 4 (zf qad):=by
 unfold qio
 go_enter Tryz.func102,Tryz.ntmps102
 go_upto_region 2 with fail
 have i:qy w (w.alloc (.cells #[.pointer none,.pointer none] 138)):=(Upd.refl _ _).alloc _
 have g:=qi w (.cells #[.pointer none,.pointer none] 138)
 generalize w.alloc (.cells #[.pointer none,.pointer none] 138)=w1 at i g ⊢
 generalize w.heap.size=B at g ⊢
 have f:=l.new i
 have x:w1.cell? ⟨B,0,none⟩=some (.pointer none):=qh g 0
 have y:w1.cell? ⟨B,1,none⟩=some (.pointer none):=qh g 1
 have q:stOk w1 A 4 32 (zf qad).toArray=true:=qff f.at_ (by rw[List.size_toArray,m.len f.len];omega) (by rw[List.size_toArray,qa4];exact qo) (by rw[Array.all_eq_true_iff_forall_mem];intro v t;exact qxo _ v (by simpa using t))
 have o:=qb i
 clear l f i g
 go_wp2_with (with_reducible first|(first|refine' zr (qg ?_) ?_|refine' zt (qg ?_) ?_);rotate_left|refine' zu (qg ?_)|rfl|apply tn|refine' zv ?_)
 go_end0
 exact⟨rfl,_,qa o,rfl⟩
theorem q4c(x:Fld)(base A:Nat)(m:MsgV)(v:Value)(w:World)(C:qj6 base w v x)(g:MsB w A m)(M:A<base) :
  ∃F z,v = .func (.func F) #[] z∧(∀args w,(callFunc F args).run Tryz.prog w = .ok (.enter F args) w)∧Calls Tryz.prog F (#[qio,.pointer (some ⟨A,0,none⟩)]++z) w fun e w'=>e = .returned (.tuple #[])∧MsB w' A (x.zero m)∧Upd (· = A) w w':=by
 have l:∀(w1:World) (o:Nat) (u:Value) (I:MsgV),qy w w1→m.cells.toArray.setIfInBounds o u=I.cells.toArray→I.hash.length=32→MsB (w1.setCell ⟨A,o,none⟩ u) A I∧Upd (· = A) w (w1.setCell ⟨A,o,none⟩ u):=by
  intro w1 o u I f i t
  have J:=g.new f
  have:=zz J.at_ o u
  rw[i] at this
  exact⟨⟨this,t⟩,(f.mono (fun _ _ h=>h.elim)).set1 o u⟩
 have t:=g.len
 cases x with
 | ch =>
  obtain⟨p,q,rfl,E,H,y,D⟩:=C
  refine⟨_,_,rfl,enters_of Tryz.func134 (by kernel_rfl) rfl,?_⟩
  refine(qzf 120 1 A p q m.ch m w (enters_of Tryz.func120 (by kernel_rfl) rfl) (zbd A) y g rfl).mono ?_
  rintro e w' ⟨i,w1,f,rfl⟩
  exact⟨i,l w1 1 _ _ f (zeu m 0) t⟩
 | id =>
  obtain⟨p,q,rfl,E,H,y,D⟩:=C
  refine⟨_,_,rfl,enters_of Tryz.func115 (by kernel_rfl) rfl,?_⟩
  refine(qoz 96 2 A p q m.id m w (enters_of Tryz.func96 (by kernel_rfl) rfl) (za9 A) y g rfl).mono ?_
  rintro e w' ⟨i,w1,f,rfl⟩
  exact⟨i,l w1 2 _ _ f (zew m 0) t⟩
 | amount =>
  obtain⟨p,q,rfl,E,H,y,D⟩:=C
  refine⟨_,_,rfl,enters_of Tryz.func115 (by kernel_rfl) rfl,?_⟩
  refine(qoz 97 3 A p q m.amount m w (enters_of Tryz.func97 (by kernel_rfl) rfl) (zba A) y g rfl).mono ?_
  rintro e w' ⟨i,w1,f,rfl⟩
  exact⟨i,l w1 3 _ _ f (q1k m 0) t⟩
 | expiry =>
  obtain⟨p,q,rfl,E,H,y,D⟩:=C
  refine⟨_,_,rfl,enters_of Tryz.func118 (by kernel_rfl) rfl,?_⟩
  have K:m.cells[36]? = some (.int .i64 m.expiry):=by
   have:=g.cells.2.2.2.2.1
   rwa [qh g.at_,List.getElem?_toArray] at this
  refine(qoy 99 36 A p q m.expiry m w (enters_of Tryz.func99 (by kernel_rfl) rfl) (zbb A) y g K).mono ?_
  rintro e w' ⟨i,w1,f,rfl⟩
  exact⟨i,l w1 36 _ _ f (q1m m t 0) t⟩
 | number =>
  obtain⟨p,q,rfl,E,H,y,D⟩:=C
  refine⟨_,_,rfl,enters_of Tryz.func118 (by kernel_rfl) rfl,?_⟩
  have K:m.cells[37]? = some (.int .i64 m.number):=by
   have:=g.cells.2.2.2.2.2.1
   rwa [qh g.at_,List.getElem?_toArray] at this
  refine(qoy 100 37 A p q m.number m w (enters_of Tryz.func100 (by kernel_rfl) rfl) (zbc A) y g K).mono ?_
  rintro e w' ⟨i,w1,f,rfl⟩
  exact⟨i,l w1 37 _ _ f (q1n m t 0) t⟩
 | hash =>
  have C:v=_:=C
  subst C
  refine⟨_,_,rfl,enters_of Tryz.func102 (by kernel_rfl) rfl,?_⟩
  refine(qv4 A m w g).mono ?_
  rintro e w' ⟨i,w1,f,rfl⟩
  have J:=g.new f
  have L:=qa9 J.at_ 4 (zf qad)
  rw[q9p m t qad qo] at L
  exact⟨i,⟨L,qo⟩,(f.mono (fun _ _ h=>h.elim)).setCells 4 _⟩
end Go.Proofs.YtjpmomdechibmaaGreatDoor
namespace Go.Proofs.YtjpmomdechibmaaGreatDoor
open Go.RowKit
theorem qaf(n:Int)(F:FuncId)(w:World):Calls Tryz.prog 95 #[.int .i64 n,.func (.func F) #[] #[]] w fun e w'=>∃v,e = .returned v∧qy w w'∧qi0 w.heap.size w' v 115 F n:=by
 go_enter Tryz.func95,Tryz.ntmps95
 go_wp2_with fail
 go_ret
 have f:=qi (w.alloc (.cells #[.int .i64 n] 3)) (.cells #[.func (.func F) #[] #[]] 168)
 rw[World.size_alloc] at f
 exact⟨_,rfl,((Upd.refl _ _).alloc _).alloc _,_,_,rfl,by omega,by omega,by rw[qh f];rfl,by rw[qh (zl (qi _ _) _)];rfl⟩
theorem qao(n:Int)(F:FuncId)(w:World):Calls Tryz.prog 98 #[.int .i64 n,.func (.func F) #[] #[]] w fun e w'=>∃v,e = .returned v∧qy w w'∧qi0 w.heap.size w' v 118 F n:=by
 go_enter Tryz.func98,Tryz.ntmps98
 go_wp2_with fail
 go_ret
 have f:=qi (w.alloc (.cells #[.int .i64 n] 3)) (.cells #[.func (.func F) #[] #[]] 171)
 rw[World.size_alloc] at f
 exact⟨_,rfl,((Upd.refl _ _).alloc _).alloc _,_,_,rfl,by omega,by omega,by rw[qh f];rfl,by rw[qh (zl (qi _ _) _)];rfl⟩
theorem qms(n:Int)(F:FuncId)(w:World):Calls Tryz.prog 119 #[.int .i64 n,.func (.func F) #[] #[]] w fun e w'=>∃v,e = .returned v∧qy w w'∧qi0 w.heap.size w' v 134 F n:=by
 go_enter Tryz.func119,Tryz.ntmps119
 go_wp2_with fail
 go_ret
 have f:=qi (w.alloc (.cells #[.int .i64 n] 3)) (.cells #[.func (.func F) #[] #[]] 194)
 rw[World.size_alloc] at f
 exact⟨_,rfl,((Upd.refl _ _).alloc _).alloc _,_,_,rfl,by omega,by omega,by rw[qh f];rfl,by rw[qh (zl (qi _ _) _)];rfl⟩
theorem qi0.later{a b:Nat}{w:World}{v:Value}{f F:FuncId}{n:Int}(h:qi0 b w v f F n)(ab:a≤b):qi0 a w v f F n:=by
 obtain⟨p,q,e,g,i,r⟩:=h
 exact⟨p,q,e,by omega,by omega,r⟩
theorem qj6.later{a b:Nat}{w:World}{v:Value}{x:Fld}(h:qj6 b w v x)(ab:a≤b):qj6 a w v x:=by
 cases x<;>first | exact qi0.later h ab | exact h
structure FldsO(base:Nat)(w:World)(v:Value)(xs:List Fld):Prop where
 row:∃vs:List Value,w.ownsRow base 165 1 v xs.length vs∧vs.length=xs.length∧∀(i:Nat) (x:Fld) (u:Value),xs[i]? = some x→vs[i]? = some u→qj6 base w u x
theorem Tryz.zeroFld:((Tryz.prog.info? 165).map fun i=>(i.zero.map (·.cells.size),i.size,decide (i.bytes≤1000)))=some (some 1,1,true):=by kernel_rfl
theorem q7v:∃i z b,Tryz.prog.info? 165=some i∧i.zero=some z∧i.size=1∧i.bytes=b∧z.cells.size=1∧b≤1000:=by
 have h:=Tryz.zeroFld
 cases l:Tryz.prog.info? 165 with
 | none=>rw[l] at h;cases h
 | some i =>
  rw[l] at h
  simp only[Option.map_some,Option.some.injEq,Prod.mk.injEq] at h
  obtain⟨f,m,o⟩:=h
  cases g:i.zero with
  | none=>rw[g] at f;cases f
  | some z =>
   rw[g] at f
   exact⟨i,z,i.bytes,rfl,g,m,rfl,by simpa using f,of_decide_eq_true o⟩
set_option maxRecDepth 100000 in
set_option maxHeartbeats 1000000 in
theorem qg4(g:Nat)(l:List Value)(w:World)(hg:w.heap[g]? = some (.cells l.toArray 165 (0,0)))(Z:∀v∈l,v.oneCell'=true)(hl:l.length≤100) :
  Calls Tryz.prog 101 #[.slice (some ⟨g,0,none⟩) l.length l.length] w fun e w'=>∃v c,e = .returned (.tuple #[v,.bool true])∧qy w w'∧w'.ownsRow w.heap.size 165 1 v (1+l.length) (c::l)∧qj6 w.heap.size w' c .ch:=by
 obtain⟨i9,z9,Y,F,M,J,K,L,E⟩:=q7v
 have U:=qms 4 120 w
 go_enter Tryz.func101,Tryz.ntmps101
 go_wp2_with fail
 refine U.mono ?_
 rintro e w1 ⟨c,rfl,D,p,q,rfl,hp,hq,P,R⟩
 clear U
 have lp:=World.block_lt_of_cell? w1 _ P
 have lq:=World.block_lt_of_cell? w1 _ R
 change p<_ at lp
 change q<_ at lq
 obtain⟨c,t⟩:∃c:Value,c = .func (.func 134) #[] #[.pointer (some ⟨p,0,none⟩),.pointer (some ⟨q,0,none⟩)]:=⟨_,rfl⟩
 have z:=qb t
 have m:(w1.alloc (.cells #[c] 165)).ownsRow w.heap.size 165 1 (.slice (some ⟨w1.heap.size,0,none⟩) 1 1) 1 [c] :=
  ⟨rfl,.inr ⟨w1.heap.size,1,#[c],rfl,D.size,qi _ _,Nat.le_refl _,by decide,rfl,rfl⟩⟩
 have x:(w1.alloc (.cells #[c] 165)).heap[g]? = some (.cells l.toArray 165 (0,0)):=(D.alloc (.cells #[c] 165)).old hg (fun h=>h)
 rw[t] at m x
 clear t
 go_wp2_with (at_builtin;refine wpList_append_own _ rfl (.tmp 7) (.tmp 8) 132 rfl w.heap.size 165 i9 _ 1 Y Tryz.underlying132 F M J K L (by decide) _ _ _ rfl m ⟨g,0,none⟩ l.length l.length l rfl (by rw[Nat.mul_one]) ?c1 Z ?c3 ?c4 ?c5 ?_)
 case c1=>exact World.news_of_block (cs:=l.toArray) (fr:=(0,0)) x
 case c3=>unfold maxLen;omega
 case c4=>have:=Nat.mul_le_mul (show 1+l.length≤101 by omega) E;omega
 case c5=>have:=D.size;rw[World.size_alloc];omega
 intro v' O i f _
 obtain⟨wa,y⟩:∃wa:World,wa=w1.alloc (.cells #[.func (.func 134) #[] #[.pointer (some ⟨p,0,none⟩),.pointer (some ⟨q,0,none⟩)]] 165):=⟨_,rfl⟩
 have o:qy w1 wa:=by rw[y];exact(Upd.refl _ _).alloc _
 rw[←y] at f
 have T:qy w O:=(D.trans o).grown f (fun k H I=>by
  simp only[Value.ownBlock,Option.some.injEq] at H
  have:=D.size
  omega)
 have N:Upd (fun k=>k=w1.heap.size) wa O:=(Upd.refl _ _).grown f (fun k H I=>by
  simp only[Value.ownBlock,Option.some.injEq] at H
  omega)
 have C:qj6 w.heap.size O c .ch:=by
  exact⟨p,q,qa z,hp,hq,N.cell (o.cell P (fun h=>h)) (by show ¬p=_;omega),N.cell (o.cell R (fun h=>h)) (by show ¬q=_;omega)⟩
 rw[←qa z] at i
 have X:=qb i
 have V:=qb C
 have W:=qb T
 clear i f C T N m x o y
 go_wp2_with fail
 go_ret2
 exact⟨_,c,rfl,qa W,qa X,qa V⟩
set_option maxRecDepth 100000 in
set_option maxHeartbeats 1000000 in
theorem qtd(w:World) :
  Calls Tryz.prog 101 #[.slice none 0 0] w fun e w'=>∃v c,e = .returned (.tuple #[v,.bool true])∧qy w w'∧w'.ownsRow w.heap.size 165 1 v 1 [c]∧qj6 w.heap.size w' c .ch:=by
 have g:=qms 4 120 w
 go_enter Tryz.func101,Tryz.ntmps101
 go_wp2_with fail
 refine g.mono ?_
 rintro e w1 ⟨c,rfl,i,p,q,rfl,o,t,l,m⟩
 clear g
 go_wp2_with fail
 go_ret2
 have f:qy w1 (w1.alloc (.cells #[.func (.func 134) #[] #[.pointer (some ⟨p,0,none⟩),.pointer (some ⟨q,0,none⟩)]] 165)):=(Upd.refl _ _).alloc _
 exact⟨_,_,rfl,i.trans f,⟨rfl,.inr ⟨w1.heap.size,1,_,rfl,i.size,qi _ _,Nat.le_refl _,by decide,rfl,rfl⟩⟩,⟨p,q,rfl,o,t,f.cell l (fun h=>h),f.cell m (fun h=>h)⟩⟩
end Go.Proofs.YtjpmomdechibmaaGreatDoor
