/-
  The shelf: Insert$1, lowest.
-/
import Derived.Test.YtjpmomdechibmaaGreatDoorMbi
import Derived.Test.YtjpmomdechibmaaGreatDoorMbj
set_option linter.unusedVariables false
set_option linter.unusedSimpArgs false
namespace Go.Proofs.YtjpmomdechibmaaGreatDoor
open Go.RowKit
theorem KeptV.len(k:KeptV)(h:k.told.length=32):k.cells.length=34:=by simp[KeptV.cells,h]
theorem KeptV.one(k:KeptV):∀v∈k.cells,v.oneCell'=true:=by
 intro v f
 simp only[KeptV.cells,List.mem_cons,List.mem_map] at f
 rcases f with rfl | rfl | ⟨n,_,rfl⟩<;>rfl
theorem Tryz.infoKpt:(Tryz.prog.info? 87).map (·.size)=some 34:=by kernel_rfl
def zbc(x:Value):Sem Value:=Instr.loadAt 87 x
theorem qnu(x:Value):Instr.loadAt 87 x=zbc x:=rfl
theorem q6v(b o:Nat)(w:World):(zbc (.pointer (some ⟨b,o,none⟩))).run Tryz.prog w=match zr w b o 34 with | some A=> .ok (.agg A) w | none=>qdk Tryz.prog 87 w b o :=
 zt 87 34 _ Tryz.underlying87 rfl Tryz.infoKpt b o w
def zbo(x v:Value):Sem Unit:=Instr.storeAt 87 x v
theorem qn2(x v:Value):Instr.storeAt 87 x v=zbo x v:=rfl
theorem q79(b o:Nat)(A:Array Value)(w:World):(zbo (.pointer (some ⟨b,o,none⟩)) (.agg A)).run Tryz.prog w=if stOk w b o 34 A=true then .ok () (w.setCells b o A.toList) else qfe Tryz.prog 87 w b o A :=
 qap 87 34 Tryz.infoKpt b o A w
theorem KeptV.zero_len:KeptV.zero.told.length=32:=List.length_replicate
def za1:Sem Value:=Instr.alloc 87 true (.tuple #[])
theorem qnc:Instr.alloc 87 true (.tuple #[])=za1:=rfl
theorem q40(w:World):za1.run Tryz.prog w = .ok (.pointer (some ⟨w.heap.size,0,none⟩)) (w.alloc (.cells KeptV.zero.cells.toArray 87)):=by kernel_rfl
def q49(p:Array (Nat × Value)):Sem Value:=Instr.build 87 p
theorem qne(p:Array (Nat × Value)):Instr.build 87 p=q49 p:=rfl
theorem qnf(w:World):(q49 #[]).run Tryz.prog w = .ok (.agg KeptV.zero.cells.toArray) w:=run_build w _ _ _ (by kernel_rfl)
theorem Tryz.zeroKpt:((Tryz.prog.info? 87).map fun i=>i.zero.map fun z=>z.cells.toList)=some (some KeptV.zero.cells):=by kernel_rfl
theorem Tryz.placesKpt:∃g,Tryz.prog.underlying 87=some (.struct g)∧g.toList.mapM (fun f=>(Tryz.prog.info? f.type).map fun i=>(f.offset,i.size))=some [(0,1),(1,1),(2,32)]:=⟨_,Tryz.underlying87,by kernel_rfl⟩
theorem q11(b:Bool)(n:Int)(H:List Value)(h:H.length=32):Tryz.prog.built 87 [(0,.bool b),(1,.int .i64 n),(2,.agg H.toArray)]=some (.bool b :: .int .i64 n::H).toArray:=by
 obtain⟨i,z,g,m,f⟩:=qdo Tryz.zeroKpt
 obtain⟨o,l,j⟩:=Tryz.placesKpt
 rw[qbv g l m j]
 rw[qcf (P:=[]) (z:= .bool false) (R:= .int .i64 0::(zz.map (Value.int .u8))) rfl rfl rfl f]
 rw[qcf (P:=[.bool b]) (z:= .int .i64 0) (R:=zz.map (Value.int .u8)) rfl rfl rfl (by rfl)]
 rw[qee (P:=[.bool b,.int .i64 n]) (A:=H) (Z:=zz.map (Value.int .u8)) (R:=[]) (off:=2) (by rw[h];rfl) rfl (by rw[h];rfl) (by rfl)]
 rw[Instr.fill]
 simp
theorem zb1(b:Bool)(n:Int)(h:List Int)(f:h.length=32)(w:World):(q49 #[(0,.bool b),(1,.int .i64 n),(2,.agg (zb h).toArray)]).run Tryz.prog w = .ok (.agg (KeptV.cells ⟨b,n,h⟩).toArray) w :=
 run_build w _ _ _ (q11 b n (zb h) (by rw[qaw,f]))
structure KpS(w:World)(b:Nat)(k:KeptV):Prop where
 at_:w.heap[b]? = some (.cells k.cells.toArray 87 (0,0))
 len:k.told.length=32
section
variable {S:Nat→Prop}{w w':World}{b:Nat}{k:KeptV}
theorem KpS.upd(a:KpS w b k)(u:Upd S w w')(n:¬S b):KpS w' b k:=⟨u.old a.at_ n,a.len⟩
theorem KpS.new(a:KpS w b k)(u:qx w w'):KpS w' b k:=a.upd u (fun h=>h)
theorem KpS.lt(a:KpS w b k):b<w.heap.size:=zq a.at_
theorem KpS.row(a:KpS w b k):zr w b 0 34=some k.cells.toArray:=qaj a.at_ 34 (by rw[List.size_toArray,k.len a.len])
theorem KpS.stOk(a:KpS w b k){j:KeptV}(f:j.told.length=32):stOk w b 0 34 j.cells.toArray=true:=by
 have:=qez a.at_ (A:=j.cells) (by rw[List.size_toArray,k.len a.len,j.len f]) j.one
 rwa [List.size_toArray,k.len a.len] at this
theorem KpS.put(a:KpS w b k){j:KeptV}(f:j.told.length=32):KpS (w.setCells b 0 j.cells) b j:=by
 refine⟨?_,f⟩
 rw[qa1 a.at_ 0 _,qcu _ _ (by rw[List.size_toArray,k.len a.len,j.len f])]
theorem KpS.c0(a:KpS w b k):w.cell? ⟨b,0,none⟩=some (.bool k.full):=qg a.at_ 0
theorem KpS.c1(a:KpS w b k):w.cell? ⟨b,1,none⟩=some (.int .i64 k.number):=qg a.at_ 1
theorem KpS.hsh(a:KpS w b k):zr w b 2 32=some (zb k.told).toArray:=by
 rw[qbz a.at_ 2 32 (by rw[List.size_toArray,k.len a.len];omega)]
 congr 1
 apply Array.ext'
 rw[Array.toList_extract]
 unfold KeptV.cells
 show List.take 32 (zb k.told)=zb k.told
 exact List.take_of_length_le (by rw[qaw,a.len];exact Nat.le_refl _)
end
theorem qlu(w:World)(k:KeptV)(f:k.told.length=32):KpS (w.alloc (.cells k.cells.toArray 87)) w.heap.size k:=⟨qi _ _,f⟩
attribute [local go_sem ↓ high] z7 qal qan qa0 qnu qn2 qnc qne qj7
attribute [local go_sem] qcp qdl qdr qfx zn q6v q79 q40 qnf
def qho(told:List Int)(i:Int)(k:KeptV):Bool:=(qce told i k.number).2==0&&(qce told i k.number).1 != k.told
theorem qte(h:List Int)(b:Nat):qaz (qe7 h b):=qel _
theorem qyz(l:List Nat):∀h:List Int,qaz h→qaz (l.foldl qe7 h):=by
 induction l with
 | nil=>intro h f;exact f
 | cons b l g=>intro h _;rw[List.foldl_cons];exact g _ (qte h b)
theorem qiu(h:List Int)(f:qaz h)(i d:Nat):qaz (qb3 h i d):=qyz _ h f
theorem qqy(h:List Int)(g:qaz h)(f t:Int):qaz (qce h f t).1:=by
 unfold qce
 split
 ·exact qiu h g _ _
 ·exact qdn
set_option maxRecDepth 100000 in
set_option maxHeartbeats 1000000 in
theorem qwg(told:List Int)(O:told.length=32)(hb:qaz told)(i:Int)(k:KeptV)(L:k.told.length=32)(kb:qaz k.told)(A I:Nat)(w:World)(U:HsB w A told)(Y:w.cell? ⟨I,0,none⟩=some (.int .i64 i))(Z:Tabs w)(X:Deb w) :
  Calls Tryz.prog 125 #[.agg k.cells.toArray,.pointer (some ⟨A,0,none⟩),.pointer (some ⟨I,0,none⟩)] w (qa5 (.bool (qho told i k)) w):=by
 go_enter Tryz.func125,Tryz.ntmps125
 go_upto_region 1 with fail
 have q:=qlu w k L
 have j:qx w (w.alloc (.cells k.cells.toArray 87)):=(Upd.refl _ _).alloc _
 generalize w.alloc (.cells k.cells.toArray 87)=w1 at q j ⊢
 obtain⟨B,t⟩:∃B,B=w.heap.size:=⟨_,rfl⟩
 rw[←t] at q ⊢
 have V:w.heap.size≤B:=by omega
 clear t
 have R:=q.c1
 have rA:=(U.new j).row
 have T:=j.cell Y (fun h=>h)
 have J:=qyq told O i k.number w1 (Z.new j) (X.new j)
 have M:=qvo told O i k.number
 have z:=qqy told hb i k.number
 have N:qho told i k=((qce told i k.number).2==0&&(qce told i k.number).1 != k.told):=rfl
 have l:=qb N
 have P:=qb q
 clear N q
 generalize qce told i k.number=K at *
 go_wp2_with fail
 refine J.mono ?_
 rintro e v ⟨rfl,D⟩
 obtain⟨C,F,E⟩:=qpm v K.1 M
 have x:=qb F
 have m:=qb (((qa P).new D).new E)
 have f:=qb ((j.trans D).trans E)
 clear J R rA T j D F E
 go_upto_region 2 with fail
 change Code.wp _ _ _ _ (qr1 v K.1)
 generalize qr1 v K.1=w3 at x m f ⊢
 generalize v.heap.size=H at x ⊢
 clear C
 have a4:=fun W=>q7c M L z kb W
 have rH:=(qa x).row
 have rK:=(qa m).hsh
 cases o:K.2==0 with
 | false =>
  have g:Hid (qho told i k=false):=by rw[o,Bool.false_and] at l;exact l
  clear l rH rK
  have y:¬K.2=0:=by simpa using o
  go_wp2_with fail
  go_ret
  exact⟨by rw[qa g];rfl,qa f⟩
 | true =>
  have g:Hid (qho told i k=(K.1 != k.told)):=by rw[o,Bool.true_and] at l;exact l
  have y:K.2=0:=by simpa using o
  clear l o
  go_wp2_with fail
  go_ret
  exact⟨by rw[qa g];rfl,qa f⟩
theorem qo7{α:Type}{A B:List α}{n:Nat}(h:A.length=n):(A++B).drop n=B:=by subst h;simp
theorem qyw(X:List KeptV)(f:∀p∈X,p.told.length=32):∀(i:Nat) (x:KeptV),X[i]? = some x→∃R,(X.flatMap KeptV.cells).drop (i*34)=x.cells++R:=by
 induction X with
 | nil=>intro i x h;simp at h
 | cons y X m =>
  intro i x h
  have l:y.cells.length=34:=y.len (f y (List.mem_cons_self ..))
  cases i with
  | zero =>
   simp only[List.getElem?_cons_zero,Option.some.injEq] at h
   subst h
   exact⟨X.flatMap KeptV.cells,by simp⟩
  | succ i =>
   rw[List.getElem?_cons_succ] at h
   obtain⟨R,g⟩:=m (fun p j=>f p (List.mem_cons_of_mem _ j)) i x h
   refine⟨R,?_⟩
   rw[List.flatMap_cons,Nat.add_mul,Nat.one_mul,Nat.add_comm (i*34) 34,←List.drop_drop,qo7 l,g]
theorem ChP.kept{w:World}{g:Nat}{S:Nat→Prop}{c:Ch}{f nv j:Value}(h:ChP w g S c f nv j){i:Nat}{p:KeptV}(o:c.shelf[i]? = some p):zr w g (48+i*34) 34=some p.cells.toArray:=by
 have z:=h.ok.s.seed
 have C:=(List.getElem?_eq_some_iff.1 o).1
 have t:=h.ok.shelf.2 p (List.mem_of_getElem? o)
 have m:c.s.cells.length=37:=c.s.len z
 have E:(c.shelf.flatMap KeptV.cells).length=578:=by rw[qig _ h.ok.shelf.2,h.ok.shelf.1]
 have q:(c.v f nv j).cells=(c.s.cells++(c.k.cells++[.int .u64 c.loc,.int .u64 c.rem,f]))++(c.shelf.flatMap KeptV.cells++[nv,j]):=by
  show c.s.cells++(c.k.cells++(Value.int .u64 c.loc :: .int .u64 c.rem::f::(c.shelf.flatMap KeptV.cells++[nv,j])))=_
  simp
 have l:(c.s.cells++(c.k.cells++[.int .u64 c.loc,.int .u64 c.rem,f])).length=48:=by
  rw[List.length_append,List.length_append,m]
  rfl
 have x:=h.ok.shelf.1
 have D:48+i*34+34≤(c.v f nv j).cells.toArray.size:=by
  rw[List.size_toArray,q,List.length_append,l,List.length_append,E]
  show 48+i*34+34≤48+(578+2)
  omega
 rw[qbz h.at_ _ 34 D]
 congr 1
 apply Array.ext'
 rw[Array.toList_extract,q]
 show List.extract (_++_) (48+i*34) (48+i*34+34)=_
 rw[List.extract_eq_take_drop,Nat.add_sub_cancel_left,←List.drop_drop,qo7 l]
 obtain⟨R,y⟩:=qyw c.shelf h.ok.shelf.2 i p o
 rw[List.drop_append_of_le_length (by omega),y,List.append_assoc,List.take_append_of_le_length (by rw[p.len t];exact Nat.le_refl _),List.take_of_length_le (by rw[p.len t];exact Nat.le_refl _)]
def qlx(told:List Int)(i:Int)(ps:List KeptV):Option KeptV:=ps.find? fun k=>k.full&&qho told i k
def q3g(told:List Int)(i:Int)(ps:List KeptV):KeptV:=(qlx told i ps).getD KeptV.zero
set_option maxRecDepth 100000 in
set_option maxHeartbeats 1000000 in
theorem qzk(g:Nat)(S:Nat→Prop)(c:Ch)(lv nv av:Value)(n:Nat)(told:List Int)(ht:told.length=32)(hb:qaz told)(i:Int)(A I:Nat)(w:World)(h:ChP w g S c lv nv av)(a4:∀p∈c.shelf,qaz p.told)(hn:n≤17)
  (hA:HsB w A told) (hI:w.cell? ⟨I,0,none⟩=some (.int .i64 i)) (hT:Tabs w) (hD:Deb w) :
  Calls Tryz.prog 124 #[.pointer (some ⟨g,48,none⟩),.int .i64 n,.func (.func 125) #[] #[.pointer (some ⟨A,0,none⟩),.pointer (some ⟨I,0,none⟩)]] w (qa5 (.tuple #[.agg (q3g told i (c.shelf.take n)).cells.toArray,.bool (qlx told i (c.shelf.take n)).isSome]) w):=by
 have b3:(n:Int)≤17:=by omega
 go_enter Tryz.func124,Tryz.ntmps124
 go_upto_region 1 with fail
 have T:=qlu w KeptV.zero KeptV.zero_len
 have y:qx w (w.alloc (.cells KeptV.zero.cells.toArray 87)):=(Upd.refl _ _).alloc _
 generalize w.alloc (.cells KeptV.zero.cells.toArray 87)=w1 at T y ⊢
 obtain⟨R,H⟩:∃R,R=w.heap.size:=⟨_,rfl⟩
 rw[←H] at T ⊢
 have a7:w.heap.size≤R:=by omega
 clear H
 have H1:=qb (h.new y)
 have HA:=qb (hA.new y)
 have HI:=qb (y.cell hI (fun h=>h))
 have HT:=qb (hT.new y)
 have HD:=qb (hD.new y)
 have HR:=qb T
 have HN:=qb y
 clear h hA hI hT hD T y
 go_wp2_with fail
 go_loopw [9,16] (fun _ iv wr=>∃j:Nat,iv = .int .i64 (j:Int)∧j≤n∧Hid (qlx told i (c.shelf.take j)=none)∧qx w1 wr) (fun _ iv _=>n-(intOf iv).toNat)
 case atStart=>exact⟨0,rfl,Nat.zero_le _,qb rfl,Upd.refl _ _⟩
 case round =>
  obtain⟨j,rfl,hj,o,F⟩:=hrel
  obtain⟨q,rfl⟩:∃q:World,q=wr:=⟨_,rfl⟩
  by_cases a9:j<n
  ·have P:=(qa H1).new F
   have Z:=P.ok.shelf.1
   obtain⟨p,N⟩:∃p,c.shelf[j]? = some p:=⟨_,List.getElem?_eq_getElem (by omega)⟩
   have C:=List.mem_of_getElem? N
   have m:=P.ok.shelf.2 p C
   have a5:=a4 p C
   have O:=P.kept N
   have ha:=qlu q KeptV.zero KeptV.zero_len
   have D:=ha.stOk m
   have x:=ha.put m
   have z:qx q ((q.alloc (.cells KeptV.zero.cells.toArray 87)).setCells q.heap.size 0 p.cells):=(((Upd.refl (fun _=>False) q).alloc _)).then (qad _) (fun i hi e=>by omega)
   have a8:(j:Int)<(n:Int):=by omega
   have M:qlx told i (c.shelf.take (j+1))=if (p.full&&qho told i p)=true then some p else none:=by
    unfold qlx at o ⊢
    rw[List.take_add_one,N,List.find?_append,qa o]
    simp only[Option.none_or,Option.toList_some,List.find?_cons,List.find?_nil]
    cases (p.full&&qho told i p)<;>rfl
   have v:=qb M
   have a6:=qb N
   clear P C ha M N Z
   go_upto_region 4 with fail
   have E:=qb x
   have f:=F.trans z
   generalize (q.alloc (.cells KeptV.zero.cells.toArray 87)).setCells q.heap.size 0 p.cells=w5 at E f ⊢
   generalize q.heap.size=K at E ⊢
   clear D x z O F
   have Y:=(qa E).c0
   cases U:p.full with
   | false =>
    rw[U] at Y
    rw[U,Bool.false_and] at v
    go_wp2_with fail
    go_roundw
    case rel=>exact⟨j+1,by go_num,by omega,by rw[if_neg (by decide)] at v;exact v,f⟩
    case measure=>simp[intOf];omega
   | true =>
    rw[U] at Y
    rw[U,Bool.true_and] at v
    have rK:=(qa E).row
    have J:=qwg told ht hb i p m a5 A I w5 ((qa HA).new f) (f.cell (qa HI) (fun h=>h)) ((qa HT).new f) ((qa HD).new f)
    go_wp2_with fail
    refine J.mono ?_
    rintro e w6 ⟨rfl,n6⟩
    have t:=f.trans n6
    have V:=qb ((qa E).new n6)
    clear J rK Y E
    cases ho:qho told i p with
    | false =>
     rw[ho,if_neg (by decide)] at v
     go_wp2_with fail
     go_roundw
     case rel=>exact⟨j+1,by go_num,by omega,v,t⟩
     case measure=>simp[intOf];omega
    | true =>
     rw[ho,if_pos rfl] at v
     have b4:=(qa V).row
     have l:=(qa HR).new t
     have D:=l.stOk m
     have W:=qb (l.put m)
     have X:=qb (((qa HN).trans t).then (qad (w:=w6) (b:=R) p.cells) (fun i hi e=>by omega))
     clear l f n6 t
     go_wp2_with fail
     have hF:=qa W
     refine bodyPost_ret (qu rfl _ _ R _ _ _ _ rfl hF.at_ Tryz.underlying87 rfl (by rw[List.size_toArray,p.len m];exact Tryz.infoKpt)) rfl ?_
     have L:qlx told i (c.shelf.take n)=some p:=by
      have e:c.shelf.take n=c.shelf.take (j+1)++(c.shelf.drop (j+1)).take (n-(j+1)):=by
       rw[←List.take_add,Nat.add_sub_cancel' (by omega)]
      have h0:=qa v
      unfold qlx at h0 ⊢
      rw[e,List.find?_append,h0]
      rfl
     refine⟨?_,qa X⟩
     unfold q3g
     rw[L]
     rfl
  ·obtain rfl:j=n:=by omega
   have l:=(qa HR).new F
   have D:=l.stOk KeptV.zero_len
   have W:=qb (l.put KeptV.zero_len)
   have X:=qb (((qa HN).trans F).then (qad (w:=q) (b:=R) KeptV.zero.cells) (fun i hi e=>by omega))
   clear l F
   go_wp2_with fail
   have hF:=qa W
   refine bodyPost_ret (qu rfl _ _ R _ _ _ _ rfl hF.at_ Tryz.underlying87 rfl (by rw[List.size_toArray,KeptV.zero.len KeptV.zero_len];exact Tryz.infoKpt)) rfl ?_
   refine⟨?_,qa X⟩
   unfold q3g
   rw[qa o]
   rfl
end Go.Proofs.YtjpmomdechibmaaGreatDoor
namespace Go.Proofs.YtjpmomdechibmaaGreatDoor
open Go.RowKit
theorem qr6(P Z R Q:List Value)(o:Nat)(i:P.length=o)(h:Z.length=Q.length):qj1 (P++(Z++R)).toArray o Q=(P++(Q++R)).toArray:=by
 apply Array.ext'
 apply List.ext_getElem?
 intro j
 have f:(P++(Z++R)).toArray.size=P.length+(Z.length+R.length):=by simp
 rw[Array.getElem?_toList,qh0 _ _ _ _ (by rw[f];omega),List.getElem?_toArray]
 by_cases g:o≤j∧j<o+Q.length
 ·rw[if_pos g,List.getElem?_append_right (by omega),List.getElem?_append_left (by omega),i]
 ·rw[if_neg g]
  by_cases l:j<o
  ·rw[List.getElem?_append_left (by omega),List.getElem?_append_left (by omega)]
  ·rw[List.getElem?_append_right (by omega),List.getElem?_append_right (by omega),List.getElem?_append_right (by omega),List.getElem?_append_right (by omega),h]
theorem q06(X:List KeptV){i:Nat}{x:KeptV}(h:X[i]? = some x):X.flatMap KeptV.cells=(X.take i).flatMap KeptV.cells++(x.cells++(X.drop (i+1)).flatMap KeptV.cells):=by
 have f:=(List.getElem?_eq_some_iff.1 h).1
 have g:=(List.getElem?_eq_some_iff.1 h).2
 conv=>lhs;rw[←List.take_append_drop i X]
 rw[List.flatMap_append,List.drop_eq_getElem_cons f,g,List.flatMap_cons]
theorem ChP.putKept{w:World}{g:Nat}{S:Nat→Prop}{c:Ch}{f nv j:Value}(h:ChP w g S c f nv j){i:Nat}{p k:KeptV}(C:c.shelf[i]? = some p)(m:k.told.length=32) :
  stOk w g (48+i*34) 34 k.cells.toArray=true∧ChP (w.setCells g (48+i*34) k.cells) g S {c with shelf:=c.shelf.set i k} f nv j:=by
 have P:=h.ok.s.seed
 have D:=(List.getElem?_eq_some_iff.1 C).1
 have L:=h.ok.shelf.2 p (List.mem_of_getElem? C)
 have z:c.s.cells.length=37:=c.s.len P
 have y:=h.ok.shelf.1
 have o:(c.s.cells++(c.k.cells++[.int .u64 c.loc,.int .u64 c.rem,f])).length=48:=by
  rw[List.length_append,List.length_append,z]
  rfl
 have H:((c.shelf.take i).flatMap KeptV.cells).length=i*34:=by
  rw[qig _ (fun q E=>h.ok.shelf.2 q (List.mem_of_mem_take E)),List.length_take,Nat.min_eq_left (by omega)]
 have x:∀(s:List KeptV),(({c with shelf:=s} : Ch).v f nv j).cells=(c.s.cells++(c.k.cells++[.int .u64 c.loc,.int .u64 c.rem,f]))++(s.flatMap KeptV.cells++[nv,j]):=by
  intro s
  show c.s.cells++(c.k.cells++(Value.int .u64 c.loc :: .int .u64 c.rem::f::(s.flatMap KeptV.cells++[nv,j])))=_
  simp
 have J:(c.v f nv j).cells=((c.s.cells++(c.k.cells++[.int .u64 c.loc,.int .u64 c.rem,f]))++(c.shelf.take i).flatMap KeptV.cells)++(p.cells++((c.shelf.drop (i+1)).flatMap KeptV.cells++[nv,j])):=by
  refine(x c.shelf).trans ?_
  rw[q06 c.shelf C]
  simp only[List.append_assoc]
 have t:(c.shelf.set i k)[i]? = some k:=by rw[List.getElem?_set_self D]
 have N:(({c with shelf:=c.shelf.set i k} : Ch).v f nv j).cells=((c.s.cells++(c.k.cells++[.int .u64 c.loc,.int .u64 c.rem,f]))++(c.shelf.take i).flatMap KeptV.cells)++(k.cells++((c.shelf.drop (i+1)).flatMap KeptV.cells++[nv,j])):=by
  refine(x _).trans ?_
  rw[q06 (c.shelf.set i k) t,List.take_set_of_le (Nat.le_refl _),List.drop_set_of_lt (by omega)]
  simp only[List.append_assoc]
 have K:((c.s.cells++(c.k.cells++[.int .u64 c.loc,.int .u64 c.rem,f]))++(c.shelf.take i).flatMap KeptV.cells).length=48+i*34:=by
  rw[List.length_append,o,H]
 have F:48+i*34+34≤(c.v f nv j).cells.toArray.size:=by
  rw[List.size_toArray,J,List.length_append,K,List.length_append,p.len L]
  omega
 have l:=qa1 h.at_ (48+i*34) k.cells
 rw[J,qr6 _ _ _ _ _ K (by rw[p.len L,k.len m]),←N] at l
 refine⟨qe0 h.at_ F (by rw[List.size_toArray,k.len m]) (by rw[Array.all_eq_true_iff_forall_mem];intro v U;exact k.one v (by simpa using U)),?_⟩
 have u:Upd (· = g) w (w.setCells g (48+i*34) k.cells):=(Upd.refl _ _).setCells _ _
 have I:∀ {T:TypeId} {v:Value} {n:Nat} {xs:List Value},T≠92→w.ownsRow 0 T 38 v n xs→∀k,v.ownBlock=some k→¬k=g:=by
  intro T v n xs O R k m e
  obtain⟨M,x⟩:=qw R k m
  exact za x h.at_ O e
 refine⟨l,⟨h.ok.s,h.ok.signed,h.ok.heard,h.ok.nextOwn,h.ok.nextTheirs,h.ok.loc,h.ok.rem,h.ok.xs,h.ok.few,?_,h.ok.news,h.ok.last,h.ok.many⟩,?_,?_,?_,h.inG,h.inL,h.inN,h.inA,h.sep,fun k m=>Nat.lt_of_lt_of_le (h.lt k m) u.size⟩
 ·refine⟨by show (c.shelf.set i k).length=17;rw[List.length_set];exact y,fun q E=> ?_⟩
  rcases List.mem_or_eq_of_mem_set E with e | e
  ·exact h.ok.shelf.2 q e
  ·rw[e];exact m
 ·exact qq h.live u (I (by decide) h.live)
 ·exact qq h.news u (I (by decide) h.news)
 ·exact qq h.last u (I (by decide) h.last)
attribute [local go_sem ↓ high] z7 qal qan qa0 qnu qn2 qnc qne qj7
attribute [local go_sem] qcp qdl qdr qfx zn q6v q79 q40 qnf
def qhj(told:List Int)(i:Int)(ps:List KeptV):Int:=if qlm i i=false then 1 else if (qlx told i (ps.take (qbb i))).isSome=true then 50 else 0
def qt2(told:List Int)(i:Int)(ps:List KeptV):List KeptV:=if qhj told i ps=0 then ps.set (qbb i) ⟨true,i,told⟩ else ps
set_option maxRecDepth 100000 in
set_option maxHeartbeats 1000000 in
theorem qzb(g:Nat)(S:Nat→Prop)(c:Ch)(lv nv av:Value)(told:List Int)(ht:told.length=32)(hb:qaz told)(i:Int)(w:World)(h:ChP w g S c lv nv av)(a5:∀p∈c.shelf,qaz p.told)(hT:Tabs w)(hD:Deb w) :
  Calls Tryz.prog 104 #[.pointer (some ⟨g,48,none⟩),.int .i64 i,.agg (zb told).toArray] w fun e w' =>
   e = .returned (.int .i64 (qhj told i c.shelf))∧ChP w' g S {c with shelf:=qt2 told i c.shelf} lv nv av∧Upd (· = g) w w':=by
 go_enter Tryz.func104,Tryz.ntmps104
 go_upto_region 1 with fail
 have q:((w.alloc (.cells #[.int .i64 i] 3)).alloc (.cells (zb told).toArray 28)).cell? ⟨w.heap.size,0,none⟩=some (.int .i64 i):=by
  rw[qg (zj (qi _ _) _)];rfl
 have M:=qby (w.alloc (.cells #[.int .i64 i] 3)) told ht
 rw[World.size_alloc] at M
 have C:qx w ((w.alloc (.cells #[.int .i64 i] 3)).alloc (.cells (zb told).toArray 28)):=((Upd.refl _ _).alloc _).alloc _
 generalize (w.alloc (.cells #[.int .i64 i] 3)).alloc (.cells (zb told).toArray 28)=w1 at q M C ⊢
 have U:=h.lt g h.inG
 obtain⟨I,O⟩:∃I,I=w.heap.size:=⟨_,rfl⟩
 obtain⟨A,N⟩:∃A,A=w.heap.size+1:=⟨_,rfl⟩
 rw[←N] at M ⊢
 rw[←O] at q ⊢
 have b3:g≠A:=by omega
 have b4:g≠I:=by omega
 clear O N U
 have x:=q0y i i w1 (hD.new C)
 have H:=qb (h.new C)
 have HA:=qb M
 have HT:=qb (hT.new C)
 have HD:=qb (hD.new C)
 have HN:=qb C
 have a7:=h.ok.shelf.1
 have V:qhj told i c.shelf=if qlm i i=false then 1 else if (qlx told i (c.shelf.take (qbb i))).isSome=true then 50 else 0:=rfl
 have X:qt2 told i c.shelf=if qhj told i c.shelf=0 then c.shelf.set (qbb i) ⟨true,i,told⟩ else c.shelf:=rfl
 have f:=qb V
 have j:=qb X
 have b5:=qkr i
 clear h M hT hD C V X
 go_wp2_with fail
 refine x.mono ?_
 rintro e w2 ⟨rfl,q2⟩
 have l:=q2.cell q
 have E:qx w1 w2:=q2.upd _
 clear x q
 cases hc:qlm i i with
 | false =>
  rw[hc,if_pos rfl] at f
  rw[qa f,if_neg (by decide)] at j
  have J:=qb (((qa HN).trans E).mono (T:=(· = g)) (fun _ _ h=>h.elim))
  have H2:=qb ((qa H).new E)
  clear q2 E l
  go_wp2_with fail
  go_ret
  rw[qa j,qa f]
  exact⟨rfl,qa H2,qa J⟩
 | true =>
  rw[hc,if_neg (by decide)] at f
  have Z:=qjb i w2 ((qa HD).new E)
  go_upto_region 3 with fail
  have N2:=qb E
  clear q2 E
  go_wp2_with fail
  refine Z.mono ?_
  rintro e w3 ⟨rfl,q3⟩
  have F:qx w1 w3:=(qa N2).trans (q3.upd _)
  have m:=q3.cell l
  have Y:=qzk g S c lv nv av (qbb i) told ht hb i A I w3 ((qa H).new F) a5 (by omega) ((qa HA).new F) m ((qa HT).new F) ((qa HD).new F)
  have N3:=qb F
  clear Z F q3 l hc
  have a6:(q3g told i (c.shelf.take (qbb i))).told.length=32:=by
   unfold q3g
   cases e:qlx told i (c.shelf.take (qbb i)) with
   | none=>exact KeptV.zero_len
   | some p =>
    unfold qlx at e
    exact(qa H).ok.shelf.2 p (List.mem_of_mem_take (List.mem_of_find?_eq_some e))
  generalize q3g told i (c.shelf.take (qbb i))=K at *
  generalize qlx told i (c.shelf.take (qbb i))=L at *
  generalize qbb i=P at *
  go_upto_region 4 with fail
  go_wp2_with fail
  refine Y.mono ?_
  rintro e z ⟨rfl,n4⟩
  have t:=n4.cell m (fun h=>h)
  have ha:=qlu z KeptV.zero KeptV.zero_len
  have a4:=ha.stOk a6
  have o:qx z ((z.alloc (.cells KeptV.zero.cells.toArray 87)).setCells z.heap.size 0 K.cells):=(((Upd.refl (fun _=>False) z).alloc _)).then (qad _) (fun i hi e=>by omega)
  have n5:=((qa N3).trans n4).trans o
  have v:=o.cell t (fun h=>h)
  have D:=qb n5
  clear Y n4 ha o n5 m t
  go_upto_region 5 with fail
  generalize (z.alloc (.cells KeptV.zero.cells.toArray 87)).setCells z.heap.size 0 K.cells=w5 at v D ⊢
  clear a4
  generalize z.heap.size=k5
  cases hL:L.isSome with
  | true =>
   rw[hL,if_pos rfl] at f
   rw[qa f,if_neg (by decide)] at j
   have J:=qb (((qa HN).trans (qa D)).mono (T:=(· = g)) (fun _ _ h=>h.elim))
   have H5:=qb ((qa H).new (qa D))
   clear v
   go_wp2_with fail
   go_ret
   rw[qa j,qa f]
   exact⟨rfl,qa H5,qa J⟩
  | false =>
   rw[hL,if_neg (by decide)] at f
   rw[qa f,if_pos rfl] at j
   go_upto_region 7 with fail
   have nd:qx w5 w5.drew:=(Upd.refl _ _).drew
   have R:=((qa H).new (qa D)).new nd
   obtain⟨p,Z⟩:∃p,c.shelf[P]? = some p:=⟨_,List.getElem?_eq_getElem (by omega)⟩
   obtain⟨a4,y⟩:=R.putKept Z (k:=⟨true,i,told⟩) ht
   have a9:=fun W=>zb1 true i told ht W
   have rA:=((qa HA).new (qa D)).row
   have HP:=qb y
   have u6:Upd (· = g) w5.drew (w5.drew.setCells g (48+P*34) (KeptV.cells ⟨true,i,told⟩)):=(Upd.refl _ _).setCells _ _
   have J:=qb (((((qa HN).trans (qa D)).trans nd).mono (T:=(· = g)) (fun _ _ h=>h.elim)).trans u6)
   have a8:(P:Int)≤16:=by omega
   clear y R Z nd u6
   go_wp2_with (with_reducible first|(first|refine' tw1 (qh ?_) ?_|refine' tw2 (qh ?_) ?_);rotate_left|refine' tw3 (qh ?_)|rfl|apply tn|refine' tw4 ?_)
   go_ret
   rw[qa j,qa f]
   exact⟨rfl,qa HP,qa J⟩
end Go.Proofs.YtjpmomdechibmaaGreatDoor
