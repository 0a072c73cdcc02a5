/-
  The shelf: Insert$1, lowest.
-/
import Derived.Test.YthnohmjbbeahmaaGreatDoorMbg
import Derived.Test.YthnohmjbbeahmaaGreatDoorMbb
set_option linter.unusedVariables false
set_option linter.unusedSimpArgs false
namespace Go.Proofs.YthnohmjbbeahmaaGreatDoor
open Go.RowKit
theorem KeptV.len(k:KeptV)(h:k.told.length=32):k.cells.length=34:=by simp[KeptV.cells,h]
theorem KeptV.one(k:KeptV):∀v∈k.cells,v.oneCell'=true:=by
 intro v hv;simp only[KeptV.cells,List.mem_cons,List.mem_map] at hv;rcases hv with rfl | rfl | ⟨n,_,rfl⟩<;>rfl
theorem Tryz.infoKpt:(Tryz.prog.info? 101).map (·.size)=some 34:=by kernel_rfl
def zfh(x:Value):Sem Value:=Instr.loadAt 101 x
theorem qpn(x:Value):Instr.loadAt 101 x=zfh x:=rfl
theorem zat(b o:Nat)(w:World):(zfh (.pointer (some ⟨b,o,none⟩))).run Tryz.prog w=match zm w b o 34 with | some A=> .ok (.agg A) w | none=>qek Tryz.prog 101 w b o :=
 qae 101 34 _ Tryz.underlying101 rfl Tryz.infoKpt b o w
def zfs(x v:Value):Sem Unit:=Instr.storeAt 101 x v
theorem qpy(x v:Value):Instr.storeAt 101 x v=zfs x v:=rfl
theorem zcj(b o:Nat)(A:Array Value)(w:World):(zfs (.pointer (some ⟨b,o,none⟩)) (.agg A)).run Tryz.prog w=if stOk w b o 34 A=true then .ok () (w.setCells b o A.toList) else qf2 Tryz.prog 101 w b o A :=
 qax 101 34 Tryz.infoKpt b o A w
theorem KeptV.zero_len:KeptV.zero.told.length=32:=List.length_replicate
def ze7:Sem Value:=Instr.alloc 101 true (.tuple #[])
theorem qo8:Instr.alloc 101 true (.tuple #[])=ze7:=rfl
theorem q8o(w:World):ze7.run Tryz.prog w = .ok (.pointer (some ⟨w.heap.size,0,none⟩)) (w.alloc (.cells KeptV.zero.cells.toArray 101)):=by kernel_rfl
def q8w(p:Array (Nat × Value)):Sem Value:=Instr.build 101 p
theorem qpa(p:Array (Nat × Value)):Instr.build 101 p=q8w p:=rfl
theorem qpb(w:World):(q8w #[]).run Tryz.prog w = .ok (.agg KeptV.zero.cells.toArray) w:=run_build w _ _ _ (by kernel_rfl)
theorem Tryz.zeroKpt:((Tryz.prog.info? 101).map fun i=>i.zero.map fun z=>z.cells.toList)=some (some KeptV.zero.cells):=by kernel_rfl
theorem Tryz.placesKpt:∃g,Tryz.prog.underlying 101=some (.struct g)∧g.toList.mapM (fun f=>(Tryz.prog.info? f.type).map fun i=>(f.offset,i.size))=some [(0,1),(1,1),(2,32)]:=⟨_,Tryz.underlying101,by kernel_rfl⟩
theorem q5g(b:Bool)(n:Int)(H:List Value)(h:H.length=32):Tryz.prog.built 101 [(0,.bool b),(1,.int .i64 n),(2,.agg H.toArray)]=some (.bool b :: .int .i64 n::H).toArray:=by
 obtain⟨i,z,l,q,g⟩:=qec Tryz.zeroKpt;obtain⟨t,o,m⟩:=Tryz.placesKpt;rw[qcb l o q m];rw[qcw (P:=[]) (z:= .bool false) (R:= .int .i64 0::(zv.map (Value.int .u8))) rfl rfl rfl g];rw[qcw (P:=[.bool b]) (z:= .int .i64 0) (R:=zv.map (Value.int .u8)) rfl rfl rfl (by rfl)];rw[qe9 (P:=[.bool b,.int .i64 n]) (A:=H) (Z:=zv.map (Value.int .u8)) (R:=[]) (off:=2) (by rw[h];rfl) rfl (by rw[h];rfl) (by rfl)];rw[Instr.fill];simp
theorem zgd(b:Bool)(n:Int)(h:List Int)(g:h.length=32)(w:World):(q8w #[(0,.bool b),(1,.int .i64 n),(2,.agg (qx h).toArray)]).run Tryz.prog w = .ok (.agg (KeptV.cells ⟨b,n,h⟩).toArray) w :=
 run_build w _ _ _ (q5g b n (qx h) (by rw[qa0,g]))
structure KpS(w:World)(b:Nat)(k:KeptV):Prop where
 at_:w.heap[b]? = some (.cells k.cells.toArray 101 (0,0))
 len:k.told.length=32
section
variable {S:Nat→Prop}{w w':World}{b:Nat}{k:KeptV}
theorem KpS.upd(a:KpS w b k)(u:Upd S w w')(n:¬S b):KpS w' b k:=⟨u.old a.at_ n,a.len⟩
theorem KpS.new(a:KpS w b k)(u:qu w w'):KpS w' b k:=a.upd u (fun h=>h)
theorem KpS.lt(a:KpS w b k):b<w.heap.size:=z6 a.at_
theorem KpS.row(a:KpS w b k):zm w b 0 34=some k.cells.toArray:=qad a.at_ 34 (by rw[List.size_toArray,k.len a.len])
theorem KpS.stOk(a:KpS w b k){j:KeptV}(g:j.told.length=32):stOk w b 0 34 j.cells.toArray=true:=by
 have:=qfb a.at_ (A:=j.cells) (by rw[List.size_toArray,k.len a.len,j.len g]) j.one;rwa [List.size_toArray,k.len a.len] at this
theorem KpS.put(a:KpS w b k){j:KeptV}(g:j.told.length=32):KpS (w.setCells b 0 j.cells) b j:=by
 refine⟨?_,g⟩;rw[qa2 a.at_ 0 _,qcz _ _ (by rw[List.size_toArray,k.len a.len,j.len g])]
theorem KpS.c0(a:KpS w b k):w.cell? ⟨b,0,none⟩=some (.bool k.full):=qh a.at_ 0
theorem KpS.c1(a:KpS w b k):w.cell? ⟨b,1,none⟩=some (.int .i64 k.number):=qh a.at_ 1
theorem KpS.hsh(a:KpS w b k):zm w b 2 32=some (qx k.told).toArray:=by
 rw[qbz a.at_ 2 32 (by rw[List.size_toArray,k.len a.len];omega)];congr 1;apply Array.ext';rw[Array.toList_extract];unfold KeptV.cells;show List.take 32 (qx k.told)=qx k.told;exact List.take_of_length_le (by rw[qa0,a.len];exact Nat.le_refl _)
end
theorem qnk(w:World)(k:KeptV)(g:k.told.length=32):KpS (w.alloc (.cells k.cells.toArray 101)) w.heap.size k:=⟨qi _ _,g⟩
attribute [local go_sem ↓ high] zy qak qaq qat qpn qpy qo8 qpa qlb
attribute [local go_sem] qcl qdb qdn qgw zb zat zcj q8o qpb
def qim(told:List Int)(i:Int)(k:KeptV):Bool:=(qcv told i k.number).2==0&&(qcv told i k.number).1 != k.told
theorem qvu(h:List Int)(b:Nat):qal (qgb h b):=qhu _
theorem q1u(l:List Nat):∀h:List Int,qal h→qal (l.foldl qgb h):=by
 induction l with
 | nil=>intro h g;exact g
 | cons b l i=>intro h _;rw[List.foldl_cons];exact i _ (qvu h b)
theorem qm7(h:List Int)(g:qal h)(i d:Nat):qal (qdv h i d):=q1u _ h g
theorem qta(h:List Int)(g:qal h)(f t:Int):qal (qcv h f t).1:=by
 unfold qcv;split
 ·exact qm7 h g _ _
 ·exact qc6
set_option maxRecDepth 100000 in
set_option maxHeartbeats 1000000 in
theorem qy6(told:List Int)(T:told.length=32)(hb:qal told)(i:Int)(k:KeptV)(O:k.told.length=32)(kb:qal k.told)(A I:Nat)(w:World)(Y:HsB w A told)(hI:w.cell? ⟨I,0,none⟩=some (.int .i64 i))(hT:Tabs w)(hD:Deb w) :
  Calls Tryz.prog 130 #[.agg k.cells.toArray,.pointer (some ⟨A,0,none⟩),.pointer (some ⟨I,0,none⟩)] w (qbr (.bool (qim told i k)) w):=by
 go_enter Tryz.func130,Tryz.ntmps130
 go_upto_region 1 with fail
 have v:=qnk w k O
 have m:qu w (w.alloc (.cells k.cells.toArray 101)):=(Upd.refl _ _).alloc _
 generalize w.alloc (.cells k.cells.toArray 101)=w1 at v m ⊢
 obtain⟨B,z⟩:∃B,B=w.heap.size:=⟨_,rfl⟩
 rw[←z] at v ⊢
 have Z:w.heap.size≤B:=by omega
 clear z
 have V:=v.c1
 have rA:=(Y.new m).row
 have X:=m.cell hI (fun h=>h)
 have hd:=q1h told T i k.number w1 (hT.new m) (hD.new m)
 have P:=qyh told T i k.number
 have F:=qta told hb i k.number
 have R:qim told i k=((qcv told i k.number).2==0&&(qcv told i k.number).1 != k.told):=rfl
 have o:=qb R
 have U:=qb v
 clear R v
 generalize qcv told i k.number=K at *
 go_wp2_with fail
 refine hd.mono ?_
 rintro e C ⟨rfl,L⟩
 obtain⟨J,N,M⟩:=qrs C K.1 P
 have D:=qb N
 have q:=qb (((qa U).new L).new M)
 have g:=qb ((m.trans L).trans M)
 clear hd V rA X m L N M
 go_upto_region 2 with fail
 change Code.wp _ _ _ _ (qud C K.1)
 generalize qud C K.1=w3 at D q g ⊢
 generalize C.heap.size=H at D ⊢
 clear J
 have a4:=fun W=>zba P O F kb W
 have rH:=(qa D).row
 have rK:=(qa q).hsh
 cases t:K.2==0 with
 | false =>
  have l:Hid (qim told i k=false):=by rw[t,Bool.false_and] at o;exact o
  clear o rH rK;have E:¬K.2=0:=by simpa using t
  go_wp2_with fail;go_ret;exact⟨by rw[qa l];rfl,qa g⟩
 | true =>
  have l:Hid (qim told i k=(K.1 != k.told)):=by rw[t,Bool.true_and] at o;exact o
  have E:K.2=0:=by simpa using t
  clear o t;go_wp2_with fail;go_ret;exact⟨by rw[qa l];rfl,qa g⟩
theorem qq9{α:Type}{A B:List α}{n:Nat}(h:A.length=n):(A++B).drop n=B:=by subst h;simp
theorem q1r(X:List KeptV)(g:∀p∈X,p.told.length=32):∀(i:Nat) (x:KeptV),X[i]? = some x→∃R,(X.flatMap KeptV.cells).drop (i*34)=x.cells++R:=by
 induction X with
 | nil=>intro i x h;simp at h
 | cons y X q =>
  intro i x h;have o:y.cells.length=34:=y.len (g y (List.mem_cons_self ..));cases i with
  | zero =>
   simp only[List.getElem?_cons_zero,Option.some.injEq] at h;subst h;exact⟨X.flatMap KeptV.cells,by simp⟩
  | succ i =>
   rw[List.getElem?_cons_succ] at h;obtain⟨R,l⟩:=q (fun p m=>g p (List.mem_cons_of_mem _ m)) i x h;refine⟨R,?_⟩;rw[List.flatMap_cons,Nat.add_mul,Nat.one_mul,Nat.add_comm (i*34) 34,←List.drop_drop,qq9 o,l]
theorem ChP.kept{w:World}{g:Nat}{S:Nat→Prop}{c:Ch}{l nv m:Value}(h:ChP w g S c l nv m){i:Nat}{p:KeptV}(t:c.shelf[i]? = some p):zm w g (48+i*34) 34=some p.cells.toArray:=by
 have F:=h.ok.s.seed;have H:=(List.getElem?_eq_some_iff.1 t).1;have C:=h.ok.shelf.2 p (List.mem_of_getElem? t);have q:c.s.cells.length=37:=c.s.len F;have J:(c.shelf.flatMap KeptV.cells).length=578:=by rw[qjb _ h.ok.shelf.2,h.ok.shelf.1]
 have z:(c.v l nv m).cells=(c.s.cells++(c.k.cells++[.int .u64 c.loc,.int .u64 c.rem,l]))++(c.shelf.flatMap KeptV.cells++[nv,m]):=by
  show c.s.cells++(c.k.cells++(Value.int .u64 c.loc :: .int .u64 c.rem::l::(c.shelf.flatMap KeptV.cells++[nv,m])))=_;simp
 have o:(c.s.cells++(c.k.cells++[.int .u64 c.loc,.int .u64 c.rem,l])).length=48:=by
  rw[List.length_append,List.length_append,q];rfl
 have D:=h.ok.shelf.1;have I:48+i*34+34≤(c.v l nv m).cells.toArray.size:=by
  rw[List.size_toArray,z,List.length_append,o,List.length_append,J];show 48+i*34+34≤48+(578+2);omega
 rw[qbz h.at_ _ 34 I];congr 1;apply Array.ext';rw[Array.toList_extract,z];show List.extract (_++_) (48+i*34) (48+i*34+34)=_;rw[List.extract_eq_take_drop,Nat.add_sub_cancel_left,←List.drop_drop,qq9 o];obtain⟨R,E⟩:=q1r c.shelf h.ok.shelf.2 i p t;rw[List.drop_append_of_le_length (by omega),E,List.append_assoc,List.take_append_of_le_length (by rw[p.len C];exact Nat.le_refl _),List.take_of_length_le (by rw[p.len C];exact Nat.le_refl _)]
def qnn(told:List Int)(i:Int)(ps:List KeptV):Option KeptV:=ps.find? fun k=>k.full&&qim told i k
def q63(told:List Int)(i:Int)(ps:List KeptV):KeptV:=(qnn told i ps).getD KeptV.zero
set_option maxRecDepth 100000 in
set_option maxHeartbeats 1000000 in
theorem q2g(g:Nat)(S:Nat→Prop)(c:Ch)(lv nv av:Value)(n:Nat)(told:List Int)(ht:told.length=32)(hb:qal told)(i:Int)(A I:Nat)(w:World)(h:ChP w g S c lv nv av)(a5:∀p∈c.shelf,qal p.told)(hn:n≤17)
  (hA:HsB w A told) (hI:w.cell? ⟨I,0,none⟩=some (.int .i64 i)) (hT:Tabs w) (hD:Deb w) :
  Calls Tryz.prog 129 #[.pointer (some ⟨g,48,none⟩),.int .i64 n,.func (.func 130) #[] #[.pointer (some ⟨A,0,none⟩),.pointer (some ⟨I,0,none⟩)]] w (qbr (.tuple #[.agg (q63 told i (c.shelf.take n)).cells.toArray,.bool (qnn told i (c.shelf.take n)).isSome]) w):=by
 have b4:(n:Int)≤17:=by omega
 go_enter Tryz.func129,Tryz.ntmps129
 go_upto_region 1 with fail
 have W:=qnk w KeptV.zero KeptV.zero_len
 have D:qu w (w.alloc (.cells KeptV.zero.cells.toArray 101)):=(Upd.refl _ _).alloc _
 generalize w.alloc (.cells KeptV.zero.cells.toArray 101)=w1 at W D ⊢
 obtain⟨R,M⟩:∃R,R=w.heap.size:=⟨_,rfl⟩
 rw[←M] at W ⊢
 have a8:w.heap.size≤R:=by omega
 clear M
 have H1:=qb (h.new D)
 have HA:=qb (hA.new D)
 have HI:=qb (D.cell hI (fun h=>h))
 have HT:=qb (hT.new D)
 have HD:=qb (hD.new D)
 have HR:=qb W
 have HN:=qb D
 clear h hA hI hT hD W D
 go_wp2_with fail
 go_loopw [9,16] (fun _ iv wr=>∃j:Nat,iv = .int .i64 (j:Int)∧j≤n∧Hid (qnn told i (c.shelf.take j)=none)∧qu w1 wr) (fun _ iv _=>n-(intOf iv).toNat)
 case atStart=>exact⟨0,rfl,Nat.zero_le _,qb rfl,Upd.refl _ _⟩
 case round =>
  obtain⟨j,rfl,hj,q,L⟩:=hrel;obtain⟨t,rfl⟩:∃t:World,t=wr:=⟨_,rfl⟩;by_cases b3:j<n
  ·have V:=(qa H1).new L;have a4:=V.ok.shelf.1;obtain⟨p,T⟩:∃p,c.shelf[j]? = some p:=⟨_,List.getElem?_eq_getElem (by omega)⟩;have F:=List.mem_of_getElem? T;have o:=V.ok.shelf.2 p F;have a6:=a5 p F;have U:=V.kept T;have ha:=qnk t KeptV.zero KeptV.zero_len;have H:=ha.stOk o;have C:=ha.put o;have E:qu t ((t.alloc (.cells KeptV.zero.cells.toArray 101)).setCells t.heap.size 0 p.cells):=(((Upd.refl (fun _=>False) t).alloc _)).then (zz _) (fun i hi e=>by omega);have a9:(j:Int)<(n:Int):=by omega
   have P:qnn told i (c.shelf.take (j+1))=if (p.full&&qim told i p)=true then some p else none:=by
    unfold qnn at q ⊢;rw[List.take_add_one,T,List.find?_append,qa q];simp only[Option.none_or,Option.toList_some,List.find?_cons,List.find?_nil];cases (p.full&&qim told i p)<;>rfl
   have z:=qb P;have a7:=qb T;clear V F ha P T a4;go_upto_region 4 with fail;have J:=qb C;have l:=L.trans E;generalize (t.alloc (.cells KeptV.zero.cells.toArray 101)).setCells t.heap.size 0 p.cells=w5 at J l ⊢;generalize t.heap.size=K at J ⊢;clear H C E U L;have c0:=(qa J).c0;cases X:p.full with
   | false =>
    rw[X] at c0;rw[X,Bool.false_and] at z;go_wp2_with fail;go_roundw
    case rel=>exact⟨j+1,by go_num,by omega,by rw[if_neg (by decide)] at z;exact z,l⟩
    case measure=>simp[intOf];omega
   | true =>
    rw[X] at c0;rw[X,Bool.true_and] at z;have rK:=(qa J).row;have N:=qy6 told ht hb i p o a6 A I w5 ((qa HA).new l) (l.cell (qa HI) (fun h=>h)) ((qa HT).new l) ((qa HD).new l);go_wp2_with fail;refine N.mono ?_;rintro e w6 ⟨rfl,n6⟩;have v:=l.trans n6;have Y:=qb ((qa J).new n6);clear N rK c0 J;cases ho:qim told i p with
    | false =>
     rw[ho,if_neg (by decide)] at z;go_wp2_with fail;go_roundw
     case rel=>exact⟨j+1,by go_num,by omega,z,v⟩
     case measure=>simp[intOf];omega
    | true =>
     rw[ho,if_pos rfl] at z;have b5:=(qa Y).row;have m:=(qa HR).new v;have H:=m.stOk o;have Z:=qb (m.put o);have HU:=qb (((qa HN).trans v).then (zz (w:=w6) (b:=R) p.cells) (fun i hi e=>by omega));clear m l n6 v;go_wp2_with fail;have hF:=qa Z;refine bodyPost_ret (qq rfl _ _ R _ _ _ _ rfl hF.at_ Tryz.underlying101 rfl (by rw[List.size_toArray,p.len o];exact Tryz.infoKpt)) rfl ?_;have O:qnn told i (c.shelf.take n)=some p:=by
      have e:c.shelf.take n=c.shelf.take (j+1)++(c.shelf.drop (j+1)).take (n-(j+1)):=by
       rw[←List.take_add,Nat.add_sub_cancel' (by omega)]
      have h0:=qa z;unfold qnn at h0 ⊢;rw[e,List.find?_append,h0];rfl
     refine⟨?_,qa HU⟩;unfold q63;rw[O];rfl
  ·obtain rfl:j=n:=by omega
   have m:=(qa HR).new L;have H:=m.stOk KeptV.zero_len;have Z:=qb (m.put KeptV.zero_len);have HU:=qb (((qa HN).trans L).then (zz (w:=t) (b:=R) KeptV.zero.cells) (fun i hi e=>by omega));clear m L;go_wp2_with fail;have hF:=qa Z;refine bodyPost_ret (qq rfl _ _ R _ _ _ _ rfl hF.at_ Tryz.underlying101 rfl (by rw[List.size_toArray,KeptV.zero.len KeptV.zero_len];exact Tryz.infoKpt)) rfl ?_;refine⟨?_,qa HU⟩;unfold q63;rw[qa q];rfl
end Go.Proofs.YthnohmjbbeahmaaGreatDoor
namespace Go.Proofs.YthnohmjbbeahmaaGreatDoor
open Go.RowKit
theorem qui(P Z R Q:List Value)(o:Nat)(l:P.length=o)(h:Z.length=Q.length):qkd (P++(Z++R)).toArray o Q=(P++(Q++R)).toArray:=by
 apply Array.ext';apply List.ext_getElem?;intro j;have g:(P++(Z++R)).toArray.size=P.length+(Z.length+R.length):=by simp
 rw[Array.getElem?_toList,qha _ _ _ _ (by rw[g];omega),List.getElem?_toArray];by_cases i:o≤j∧j<o+Q.length
 ·rw[if_pos i,List.getElem?_append_right (by omega),List.getElem?_append_left (by omega),l]
 ·rw[if_neg i];by_cases m:j<o
  ·rw[List.getElem?_append_left (by omega),List.getElem?_append_left (by omega)]
  ·rw[List.getElem?_append_right (by omega),List.getElem?_append_right (by omega),List.getElem?_append_right (by omega),List.getElem?_append_right (by omega),h]
theorem q38(X:List KeptV){i:Nat}{x:KeptV}(h:X[i]? = some x):X.flatMap KeptV.cells=(X.take i).flatMap KeptV.cells++(x.cells++(X.drop (i+1)).flatMap KeptV.cells):=by
 have g:=(List.getElem?_eq_some_iff.1 h).1;have l:=(List.getElem?_eq_some_iff.1 h).2
 conv=>lhs;rw[←List.take_append_drop i X]
 rw[List.flatMap_append,List.drop_eq_getElem_cons g,l,List.flatMap_cons]
theorem ChP.putKept{w:World}{g:Nat}{S:Nat→Prop}{c:Ch}{l nv m:Value}(h:ChP w g S c l nv m){i:Nat}{p k:KeptV}(H:c.shelf[i]? = some p)(t:k.told.length=32) :
  stOk w g (48+i*34) 34 k.cells.toArray=true∧ChP (w.setCells g (48+i*34) k.cells) g S {c with shelf:=c.shelf.set i k} l nv m:=by
 have W:=h.ok.s.seed
 have I:=(List.getElem?_eq_some_iff.1 H).1
 have P:=h.ok.shelf.2 p (List.mem_of_getElem? H)
 have F:c.s.cells.length=37:=c.s.len W
 have E:=h.ok.shelf.1
 have z:(c.s.cells++(c.k.cells++[.int .u64 c.loc,.int .u64 c.rem,l])).length=48:=by
  rw[List.length_append,List.length_append,F];rfl
 have L:((c.shelf.take i).flatMap KeptV.cells).length=i*34:=by
  rw[qjb _ (fun q J=>h.ok.shelf.2 q (List.mem_of_mem_take J)),List.length_take,Nat.min_eq_left (by omega)]
 have D:∀(s:List KeptV),(({c with shelf:=s} : Ch).v l nv m).cells=(c.s.cells++(c.k.cells++[.int .u64 c.loc,.int .u64 c.rem,l]))++(s.flatMap KeptV.cells++[nv,m]):=by
  intro s;show c.s.cells++(c.k.cells++(Value.int .u64 c.loc :: .int .u64 c.rem::l::(s.flatMap KeptV.cells++[nv,m])))=_;simp
 have N:(c.v l nv m).cells=((c.s.cells++(c.k.cells++[.int .u64 c.loc,.int .u64 c.rem,l]))++(c.shelf.take i).flatMap KeptV.cells)++(p.cells++((c.shelf.drop (i+1)).flatMap KeptV.cells++[nv,m])):=by
  refine(D c.shelf).trans ?_;rw[q38 c.shelf H];simp only[List.append_assoc]
 have C:(c.shelf.set i k)[i]? = some k:=by rw[List.getElem?_set_self I]
 have U:(({c with shelf:=c.shelf.set i k} : Ch).v l nv m).cells=((c.s.cells++(c.k.cells++[.int .u64 c.loc,.int .u64 c.rem,l]))++(c.shelf.take i).flatMap KeptV.cells)++(k.cells++((c.shelf.drop (i+1)).flatMap KeptV.cells++[nv,m])):=by
  refine(D _).trans ?_;rw[q38 (c.shelf.set i k) C,List.take_set_of_le (Nat.le_refl _),List.drop_set_of_lt (by omega)];simp only[List.append_assoc]
 have O:((c.s.cells++(c.k.cells++[.int .u64 c.loc,.int .u64 c.rem,l]))++(c.shelf.take i).flatMap KeptV.cells).length=48+i*34:=by
  rw[List.length_append,z,L]
 have K:48+i*34+34≤(c.v l nv m).cells.toArray.size:=by
  rw[List.size_toArray,N,List.length_append,O,List.length_append,p.len P];omega
 have o:=qa2 h.at_ (48+i*34) k.cells
 rw[N,qui _ _ _ _ _ O (by rw[p.len P,k.len t]),←U] at o
 refine⟨qf3 h.at_ K (by rw[List.size_toArray,k.len t]) (by rw[Array.all_eq_true_iff_forall_mem];intro v hv;exact k.one v (by simpa using hv)),?_⟩
 have u:Upd (· = g) w (w.setCells g (48+i*34) k.cells):=(Upd.refl _ _).setCells _ _
 have M:∀ {T:TypeId} {v:Value} {n:Nat} {xs:List Value},T≠106→w.ownsRow 0 T 38 v n xs→∀k,v.ownBlock=some k→¬k=g:=by
  intro T v n xs V X k t e;obtain⟨R,D⟩:=qai X k t;exact qao D h.at_ V e
 refine⟨o,⟨h.ok.s,h.ok.signed,h.ok.heard,h.ok.nextOwn,h.ok.nextTheirs,h.ok.loc,h.ok.rem,h.ok.xs,h.ok.few,?_,h.ok.news,h.ok.last,h.ok.many⟩,?_,?_,?_,h.inG,h.inL,h.inN,h.inA,h.sep,fun k t=>Nat.lt_of_lt_of_le (h.lt k t) u.size⟩
 ·refine⟨by show (c.shelf.set i k).length=17;rw[List.length_set];exact E,fun q J=> ?_⟩;rcases List.mem_or_eq_of_mem_set J with e | e
  ·exact h.ok.shelf.2 q e
  ·rw[e];exact t
 ·exact zc h.live u (M (by decide) h.live)
 ·exact zc h.news u (M (by decide) h.news)
 ·exact zc h.last u (M (by decide) h.last)
attribute [local go_sem ↓ high] zy qak qaq qat qpn qpy qo8 qpa qlb
attribute [local go_sem] qcl qdb qdn qgw zb zat zcj q8o qpb
def qft(told:List Int)(i:Int)(ps:List KeptV):Int:=if qm6 i i=false then 1 else if (qnn told i (ps.take (qbq i))).isSome=true then 50 else 0
def qkl(told:List Int)(i:Int)(ps:List KeptV):List KeptV:=if qft told i ps=0 then ps.set (qbq i) ⟨true,i,told⟩ else ps
set_option maxRecDepth 100000 in
set_option maxHeartbeats 1000000 in
theorem q16(g:Nat)(S:Nat→Prop)(c:Ch)(lv nv av:Value)(told:List Int)(ht:told.length=32)(hb:qal told)(i:Int)(w:World)(h:ChP w g S c lv nv av)(a8:∀p∈c.shelf,qal p.told)(hT:Tabs w)(hD:Deb w) :
  Calls Tryz.prog 111 #[.pointer (some ⟨g,48,none⟩),.int .i64 i,.agg (qx told).toArray] w fun e w' =>
   e = .returned (.int .i64 (qft told i c.shelf))∧ChP w' g S {c with shelf:=qkl told i c.shelf} lv nv av∧Upd (· = g) w w':=by
 go_enter Tryz.func111,Tryz.ntmps111
 go_upto_region 1 with fail
 have v:((w.alloc (.cells #[.int .i64 i] 3)).alloc (.cells (qx told).toArray 33)).cell? ⟨w.heap.size,0,none⟩=some (.int .i64 i):=by
  rw[qh (zj (qi _ _) _)];rfl
 have U:=qch (w.alloc (.cells #[.int .i64 i] 3)) told ht
 rw[World.size_alloc] at U
 have H:qu w ((w.alloc (.cells #[.int .i64 i] 3)).alloc (.cells (qx told).toArray 33)):=((Upd.refl _ _).alloc _).alloc _
 generalize (w.alloc (.cells #[.int .i64 i] 3)).alloc (.cells (qx told).toArray 33)=w1 at v U H ⊢
 have Z:=h.lt g h.inG
 obtain⟨I,X⟩:∃I,I=w.heap.size:=⟨_,rfl⟩
 obtain⟨A,V⟩:∃A,A=w.heap.size+1:=⟨_,rfl⟩
 rw[←V] at U ⊢
 rw[←X] at v ⊢
 have b6:g≠A:=by omega
 have b7:g≠I:=by omega
 clear X V Z
 have D:=q3x i i w1 (hD.new H)
 have O:=qb (h.new H)
 have HA:=qb U
 have HT:=qb (hT.new H)
 have HD:=qb (hD.new H)
 have HN:=qb H
 have b3:=h.ok.shelf.1
 have a4:qft told i c.shelf=if qm6 i i=false then 1 else if (qnn told i (c.shelf.take (qbq i))).isSome=true then 50 else 0:=rfl
 have a5:qkl told i c.shelf=if qft told i c.shelf=0 then c.shelf.set (qbq i) ⟨true,i,told⟩ else c.shelf:=rfl
 have l:=qb a4
 have m:=qb a5
 have b8:=ql0 i
 clear h U hT hD H a4 a5
 go_wp2_with fail
 refine D.mono ?_
 rintro e w2 ⟨rfl,q2⟩
 have o:=q2.cell v
 have M:qu w1 w2:=q2.upd _
 clear D v
 cases hc:qm6 i i with
 | false =>
  rw[hc,if_pos rfl] at l;rw[qa l,if_neg (by decide)] at m;have R:=qb (((qa HN).trans M).mono (T:=(· = g)) (fun _ _ h=>h.elim));have H2:=qb ((qa O).new M);clear q2 M o;go_wp2_with fail;go_ret;rw[qa m,qa l];exact⟨rfl,qa H2,qa R⟩
 | true =>
  rw[hc,if_neg (by decide)] at l;have hp:=qj7 i w2 ((qa HD).new M);go_upto_region 3 with fail;have N2:=qb M;clear q2 M;go_wp2_with fail;refine hp.mono ?_;rintro e w3 ⟨rfl,q3⟩;have N:qu w1 w3:=(qa N2).trans (q3.upd _);have q:=q3.cell o;have a6:=q2g g S c lv nv av (qbq i) told ht hb i A I w3 ((qa O).new N) a8 (by omega) ((qa HA).new N) q ((qa HT).new N) ((qa HD).new N);have N3:=qb N;clear hp N q3 o hc;have a9:(q63 told i (c.shelf.take (qbq i))).told.length=32:=by
   unfold q63;cases e:qnn told i (c.shelf.take (qbq i)) with
   | none=>exact KeptV.zero_len
   | some p =>
    unfold qnn at e;exact(qa O).ok.shelf.2 p (List.mem_of_mem_take (List.mem_of_find?_eq_some e))
  generalize q63 told i (c.shelf.take (qbq i))=K at *
  generalize qnn told i (c.shelf.take (qbq i))=L at *
  generalize qbq i=P at *
  go_upto_region 4 with fail;go_wp2_with fail;refine a6.mono ?_;rintro e F ⟨rfl,n4⟩;have z:=n4.cell q (fun h=>h);have ha:=qnk F KeptV.zero KeptV.zero_len;have a7:=ha.stOk a9;have t:qu F ((F.alloc (.cells KeptV.zero.cells.toArray 101)).setCells F.heap.size 0 K.cells):=(((Upd.refl (fun _=>False) F).alloc _)).then (zz _) (fun i hi e=>by omega);have n5:=((qa N3).trans n4).trans t;have C:=t.cell z (fun h=>h);have J:=qb n5;clear a6 n4 ha t n5 q z;go_upto_region 5 with fail;generalize (F.alloc (.cells KeptV.zero.cells.toArray 101)).setCells F.heap.size 0 K.cells=w5 at C J ⊢;clear a7;generalize F.heap.size=k5;cases hL:L.isSome with
  | true =>
   rw[hL,if_pos rfl] at l;rw[qa l,if_neg (by decide)] at m;have R:=qb (((qa HN).trans (qa J)).mono (T:=(· = g)) (fun _ _ h=>h.elim));have H5:=qb ((qa O).new (qa J));clear C;go_wp2_with fail;go_ret;rw[qa m,qa l];exact⟨rfl,qa H5,qa R⟩
  | false =>
   rw[hL,if_neg (by decide)] at l;rw[qa l,if_pos rfl] at m;go_upto_region 7 with fail;have nd:qu w5 w5.drew:=(Upd.refl _ _).drew;have Y:=((qa O).new (qa J)).new nd;obtain⟨p,hp⟩:∃p,c.shelf[P]? = some p:=⟨_,List.getElem?_eq_getElem (by omega)⟩;obtain⟨a7,E⟩:=Y.putKept hp (k:=⟨true,i,told⟩) ht;have b5:=fun W=>zgd true i told ht W
   have rA:=((qa HA).new (qa J)).row;have HP:=qb E;have u6:Upd (· = g) w5.drew (w5.drew.setCells g (48+P*34) (KeptV.cells ⟨true,i,told⟩)):=(Upd.refl _ _).setCells _ _;have R:=qb (((((qa HN).trans (qa J)).trans nd).mono (T:=(· = g)) (fun _ _ h=>h.elim)).trans u6);have b4:(P:Int)≤16:=by omega
   clear E Y hp nd u6;go_wp2_with (with_reducible first|(first|refine' tw1 (qg ?_) ?_|refine' tw2 (qg ?_) ?_);rotate_left|refine' tw3 (qg ?_)|rfl|apply tn|refine' tw4 ?_);go_ret;rw[qa m,qa l];exact⟨rfl,qa HP,qa R⟩
end Go.Proofs.YthnohmjbbeahmaaGreatDoor
namespace Go.Proofs.YthnohmjbbeahmaaGreatDoor
open Go.RowKit
inductive Fld where
 | ch
 | id
 | amount
 | hash
 | expiry
 | number
def Fld.zero(x:Fld)(m:MsgV):MsgV :=
 match x with
 | .ch=> {m with ch:=0}
 | .id=> {m with id:=0}
 | .amount=> {m with amount:=0}
 | .hash=> {m with hash:=zv}
 | .expiry=> {m with expiry:=0}
 | .number=> {m with number:=0}
def qjg(base:Nat)(w:World)(v:Value)(f F:FuncId)(n:Int):Prop :=
 ∃p q,v = .func (.func f) #[] #[.pointer (some ⟨p,0,none⟩),.pointer (some ⟨q,0,none⟩)]∧base≤p∧base≤q∧w.cell? ⟨p,0,none⟩=some (.func (.func F) #[] #[])∧w.cell? ⟨q,0,none⟩=some (.int .i64 n)
def qkn(base:Nat)(w:World)(v:Value)(x:Fld):Prop :=
 match x with
 | .ch=>qjg base w v 138 124 4
 | .id=>qjg base w v 119 103 8
 | .amount=>qjg base w v 119 104 8
 | .hash=>v = .func (.func 109) #[] #[]
 | .expiry=>qjg base w v 122 106 4
 | .number=>qjg base w v 122 107 2
theorem qjg.upd{base:Nat}{w w':World}{v:Value}{f F:FuncId}{n:Int}{S:Nat→Prop}(h:qjg base w v f F n)(u:Upd S w w')(g:∀k,base≤k→¬S k):qjg base w' v f F n:=by
 obtain⟨p,q,e,i,l,m,o⟩:=h;exact⟨p,q,e,i,l,u.cell m (g p i),u.cell o (g q l)⟩
theorem qkn.upd{base:Nat}{w w':World}{v:Value}{x:Fld}{S:Nat→Prop}(h:qkn base w v x)(u:Upd S w w')(g:∀k,base≤k→¬S k):qkn base w' v x:=by
 cases x<;>first | exact qjg.upd h u g | exact h
theorem qkn.new{base:Nat}{w w':World}{v:Value}{x:Fld}(h:qkn base w v x)(u:qu w w'):qkn base w' v x:=h.upd u (fun _ _ h=>h)
theorem qjg.one{base:Nat}{w:World}{v:Value}{f F:FuncId}{n:Int}(h:qjg base w v f F n):v.oneCell'=true:=by
 obtain⟨p,q,rfl,_⟩:=h;rfl
theorem qkn.one{base:Nat}{w:World}{v:Value}{x:Fld}(h:qkn base w v x):v.oneCell'=true:=by
 cases x<;>first | exact qjg.one h | (have h:v=_:=h;rw[h];rfl)
theorem zhj(m:MsgV)(n:Int):m.cells.toArray.setIfInBounds 1 (.int .u32 n)=({m with ch:=n} : MsgV).cells.toArray:=rfl
theorem zhk(m:MsgV)(n:Int):m.cells.toArray.setIfInBounds 2 (.int .u64 n)=({m with id:=n} : MsgV).cells.toArray:=rfl
theorem q28(m:MsgV)(n:Int):m.cells.toArray.setIfInBounds 3 (.int .u64 n)=({m with amount:=n} : MsgV).cells.toArray:=rfl
theorem qzh(m:MsgV)(h:m.hash.length=32):m.cells=(.int .i64 m.kind :: .int .u32 m.ch :: .int .u64 m.id :: .int .u64 m.amount::qx m.hash)++[.int .i64 m.expiry,.int .i64 m.number]:=rfl
theorem q3a(m:MsgV)(h:m.hash.length=32)(n:Int):m.cells.toArray.setIfInBounds 36 (.int .i64 n)=({m with expiry:=n} : MsgV).cells.toArray:=by
 rw[List.setIfInBounds_toArray,qzh m h,List.set_append_right _ _ (by simp[qx,h])];congr 1;show _=(.int .i64 m.kind :: .int .u32 m.ch :: .int .u64 m.id :: .int .u64 m.amount::qx m.hash)++[.int .i64 n,.int .i64 m.number];simp[qx,h]
theorem q3b(m:MsgV)(h:m.hash.length=32)(n:Int):m.cells.toArray.setIfInBounds 37 (.int .i64 n)=({m with number:=n} : MsgV).cells.toArray:=by
 rw[List.setIfInBounds_toArray,qzh m h,List.set_append_right _ _ (by simp[qx,h])];congr 1;show _=(.int .i64 m.kind :: .int .u32 m.ch :: .int .u64 m.id :: .int .u64 m.amount::qx m.hash)++[.int .i64 m.expiry,.int .i64 n];simp[qx,h]
theorem zbz(m:MsgV)(h:m.hash.length=32)(k:List Int)(g:k.length=32):qkd m.cells.toArray 4 (qx k)=({m with hash:=k} : MsgV).cells.toArray :=
 qui [.int .i64 m.kind,.int .u32 m.ch,.int .u64 m.id,.int .u64 m.amount] (qx m.hash) [.int .i64 m.expiry,.int .i64 m.number] (qx k) 4 rfl (by rw[qa0,qa0,h,g])
attribute [local go_sem ↓ high] zy qak qaq qat
attribute [local go_sem] qcl qdb qdn qgw zb
theorem zdt(A:Nat)(w:World):Calls Tryz.prog 103 #[.pointer (some ⟨A,0,none⟩)] w (qce (.pointer (some ⟨A,2,none⟩)) w):=by
 go_enter Tryz.func103,Tryz.ntmps103;go_wp2_with fail;go_ret;exact⟨rfl,Q.refl _⟩
theorem zdu(A:Nat)(w:World):Calls Tryz.prog 104 #[.pointer (some ⟨A,0,none⟩)] w (qce (.pointer (some ⟨A,3,none⟩)) w):=by
 go_enter Tryz.func104,Tryz.ntmps104;go_wp2_with fail;go_ret;exact⟨rfl,Q.refl _⟩
theorem zdv(A:Nat)(w:World):Calls Tryz.prog 106 #[.pointer (some ⟨A,0,none⟩)] w (qce (.pointer (some ⟨A,36,none⟩)) w):=by
 go_enter Tryz.func106,Tryz.ntmps106;go_wp2_with fail;go_ret;exact⟨rfl,Q.refl _⟩
theorem zdw(A:Nat)(w:World):Calls Tryz.prog 107 #[.pointer (some ⟨A,0,none⟩)] w (qce (.pointer (some ⟨A,37,none⟩)) w):=by
 go_enter Tryz.func107,Tryz.ntmps107;go_wp2_with fail;go_ret;exact⟨rfl,Q.refl _⟩
theorem zdx(A:Nat)(w:World):Calls Tryz.prog 124 #[.pointer (some ⟨A,0,none⟩)] w (qce (.pointer (some ⟨A,1,none⟩)) w):=by
 go_enter Tryz.func124,Tryz.ntmps124;go_wp2_with fail;go_ret;exact⟨rfl,Q.refl _⟩
def qi6:Value:= .agg #[.pointer none,.pointer none]
set_option maxRecDepth 100000 in
set_option maxHeartbeats 1000000 in
theorem qp3(F:FuncId)(o A p q:Nat)(x:Int)(m:MsgV)(w:World)(R:∀args w,(callFunc F args).run Tryz.prog w = .ok (.enter F args) w)(K:∀w,Calls Tryz.prog F #[.pointer (some ⟨A,0,none⟩)] w (qce (.pointer (some ⟨A,o,none⟩)) w))(E:w.cell? ⟨p,0,none⟩=some (.func (.func F) #[] #[]))(D:MsB w A m)(L:m.cells[o]? = some (.int .u64 x)) :
  Calls Tryz.prog 119 #[qi6,.pointer (some ⟨A,0,none⟩),.pointer (some ⟨p,0,none⟩),.pointer (some ⟨q,0,none⟩)] w fun e w'=>e = .returned (.tuple #[])∧∃w1,qu w w1∧w'=w1.setCell ⟨A,o,none⟩ (.int .u64 0):=by
 unfold qi6
 go_enter Tryz.func119,Tryz.ntmps119
 go_upto_region 1 with fail
 have i:qu w (w.alloc (.cells #[.pointer none,.pointer none] 155)):=(Upd.refl _ _).alloc _
 have v:=qi w (.cells #[.pointer none,.pointer none] 155)
 generalize w.alloc (.cells #[.pointer none,.pointer none] 155)=w1 at i v ⊢
 generalize w.heap.size=B at v ⊢
 have C:=i.cell E (fun h=>h)
 have I:=qb (D.new i)
 have z:=qb v
 clear v E D
 go_wp2_with fail
 refine(K w1).mono ?_
 rintro e t ⟨rfl,l⟩
 have H:qu w t:=i.trans (l.upd _)
 have g:=(qa I).new (l.upd _)
 have N:t.cell? ⟨B,0,none⟩=some (.pointer none):=l.cell (qh (qa z) 0)
 have O:t.cell? ⟨B,1,none⟩=some (.pointer none):=l.cell (qh (qa z) 1)
 have M:t.cell? ⟨A,o,none⟩=some (.int .u64 x):=by rw[qh g.at_,List.getElem?_toArray];exact L
 have P:t.frozen? ⟨A,o,none⟩=false:=qv g.at_ o
 have J:=qb H
 clear g l H i C z
 go_wp2_with (with_reducible first|(first|refine' tw1 (qg ?_) ?_|refine' tw2 (qg ?_) ?_);rotate_left|refine' tw3 (qg ?_)|rfl|apply tn|refine' tw4 ?_)
 go_end0
 exact⟨rfl,_,qa J,rfl⟩
set_option maxRecDepth 100000 in
set_option maxHeartbeats 1000000 in
theorem qp2(F:FuncId)(o A p q:Nat)(x:Int)(m:MsgV)(w:World)(R:∀args w,(callFunc F args).run Tryz.prog w = .ok (.enter F args) w)(K:∀w,Calls Tryz.prog F #[.pointer (some ⟨A,0,none⟩)] w (qce (.pointer (some ⟨A,o,none⟩)) w))(E:w.cell? ⟨p,0,none⟩=some (.func (.func F) #[] #[]))(D:MsB w A m)(L:m.cells[o]? = some (.int .i64 x)) :
  Calls Tryz.prog 122 #[qi6,.pointer (some ⟨A,0,none⟩),.pointer (some ⟨p,0,none⟩),.pointer (some ⟨q,0,none⟩)] w fun e w'=>e = .returned (.tuple #[])∧∃w1,qu w w1∧w'=w1.setCell ⟨A,o,none⟩ (.int .i64 0):=by
 unfold qi6
 go_enter Tryz.func122,Tryz.ntmps122
 go_upto_region 1 with fail
 have i:qu w (w.alloc (.cells #[.pointer none,.pointer none] 155)):=(Upd.refl _ _).alloc _
 have v:=qi w (.cells #[.pointer none,.pointer none] 155)
 generalize w.alloc (.cells #[.pointer none,.pointer none] 155)=w1 at i v ⊢
 generalize w.heap.size=B at v ⊢
 have C:=i.cell E (fun h=>h)
 have I:=qb (D.new i)
 have z:=qb v
 clear v E D
 go_wp2_with fail
 refine(K w1).mono ?_
 rintro e t ⟨rfl,l⟩
 have H:qu w t:=i.trans (l.upd _)
 have g:=(qa I).new (l.upd _)
 have N:t.cell? ⟨B,0,none⟩=some (.pointer none):=l.cell (qh (qa z) 0)
 have O:t.cell? ⟨B,1,none⟩=some (.pointer none):=l.cell (qh (qa z) 1)
 have M:t.cell? ⟨A,o,none⟩=some (.int .i64 x):=by rw[qh g.at_,List.getElem?_toArray];exact L
 have P:t.frozen? ⟨A,o,none⟩=false:=qv g.at_ o
 have J:=qb H
 clear g l H i C z
 go_wp2_with (with_reducible first|(first|refine' tw1 (qg ?_) ?_|refine' tw2 (qg ?_) ?_);rotate_left|refine' tw3 (qg ?_)|rfl|apply tn|refine' tw4 ?_)
 go_end0
 exact⟨rfl,_,qa J,rfl⟩
set_option maxRecDepth 100000 in
set_option maxHeartbeats 1000000 in
theorem q0w(F:FuncId)(o A p q:Nat)(x:Int)(m:MsgV)(w:World)(R:∀args w,(callFunc F args).run Tryz.prog w = .ok (.enter F args) w)(K:∀w,Calls Tryz.prog F #[.pointer (some ⟨A,0,none⟩)] w (qce (.pointer (some ⟨A,o,none⟩)) w))(E:w.cell? ⟨p,0,none⟩=some (.func (.func F) #[] #[]))(D:MsB w A m)(L:m.cells[o]? = some (.int .u32 x)) :
  Calls Tryz.prog 138 #[qi6,.pointer (some ⟨A,0,none⟩),.pointer (some ⟨p,0,none⟩),.pointer (some ⟨q,0,none⟩)] w fun e w'=>e = .returned (.tuple #[])∧∃w1,qu w w1∧w'=w1.setCell ⟨A,o,none⟩ (.int .u32 0):=by
 unfold qi6
 go_enter Tryz.func138,Tryz.ntmps138
 go_upto_region 1 with fail
 have i:qu w (w.alloc (.cells #[.pointer none,.pointer none] 155)):=(Upd.refl _ _).alloc _
 have v:=qi w (.cells #[.pointer none,.pointer none] 155)
 generalize w.alloc (.cells #[.pointer none,.pointer none] 155)=w1 at i v ⊢
 generalize w.heap.size=B at v ⊢
 have C:=i.cell E (fun h=>h)
 have I:=qb (D.new i)
 have z:=qb v
 clear v E D
 go_wp2_with fail
 refine(K w1).mono ?_
 rintro e t ⟨rfl,l⟩
 have H:qu w t:=i.trans (l.upd _)
 have g:=(qa I).new (l.upd _)
 have N:t.cell? ⟨B,0,none⟩=some (.pointer none):=l.cell (qh (qa z) 0)
 have O:t.cell? ⟨B,1,none⟩=some (.pointer none):=l.cell (qh (qa z) 1)
 have M:t.cell? ⟨A,o,none⟩=some (.int .u32 x):=by rw[qh g.at_,List.getElem?_toArray];exact L
 have P:t.frozen? ⟨A,o,none⟩=false:=qv g.at_ o
 have J:=qb H
 clear g l H i C z
 go_wp2_with (with_reducible first|(first|refine' tw1 (qg ?_) ?_|refine' tw2 (qg ?_) ?_);rotate_left|refine' tw3 (qg ?_)|rfl|apply tn|refine' tw4 ?_)
 go_end0
 exact⟨rfl,_,qa J,rfl⟩
set_option maxRecDepth 100000 in
set_option maxHeartbeats 1000000 in
theorem qxq(A:Nat)(m:MsgV)(w:World)(o:MsB w A m) :
  Calls Tryz.prog 109 #[qi6,.pointer (some ⟨A,0,none⟩)] w fun e w'=>e = .returned (.tuple #[])∧∃w1,qu w w1∧w'=w1.setCells A 4 (qx zv):=by
 unfold qi6
 go_enter Tryz.func109,Tryz.ntmps109
 go_upto_region 2 with fail
 have l:qu w (w.alloc (.cells #[.pointer none,.pointer none] 155)):=(Upd.refl _ _).alloc _
 have i:=qi w (.cells #[.pointer none,.pointer none] 155)
 generalize w.alloc (.cells #[.pointer none,.pointer none] 155)=w1 at l i ⊢
 generalize w.heap.size=B at i ⊢
 have g:=o.new l
 have z:w1.cell? ⟨B,0,none⟩=some (.pointer none):=qh i 0
 have C:w1.cell? ⟨B,1,none⟩=some (.pointer none):=qh i 1
 have t:stOk w1 A 4 32 (qx zv).toArray=true:=qf3 g.at_ (by rw[List.size_toArray,m.len g.len];omega) (by rw[List.size_toArray,qa0];exact qs) (by rw[Array.all_eq_true_iff_forall_mem];intro v hv;exact qy3 _ v (by simpa using hv))
 have q:=qb l
 clear o g l i
 go_wp2_with (with_reducible first|(first|refine' tw1 (qg ?_) ?_|refine' tw2 (qg ?_) ?_);rotate_left|refine' tw3 (qg ?_)|rfl|apply tn|refine' tw4 ?_)
 go_end0
 exact⟨rfl,_,qa q,rfl⟩
theorem q50(x:Fld)(base A:Nat)(m:MsgV)(v:Value)(w:World)(hv:qkn base w v x)(i:MsB w A m)(N:A<base) :
  ∃F D,v = .func (.func F) #[] D∧(∀args w,(callFunc F args).run Tryz.prog w = .ok (.enter F args) w)∧Calls Tryz.prog F (#[qi6,.pointer (some ⟨A,0,none⟩)]++D) w fun e w'=>e = .returned (.tuple #[])∧MsB w' A (x.zero m)∧Upd (· = A) w w':=by
 have t:∀(w1:World) (o:Nat) (u:Value) (J:MsgV),qu w w1→m.cells.toArray.setIfInBounds o u=J.cells.toArray→J.hash.length=32→MsB (w1.setCell ⟨A,o,none⟩ u) A J∧Upd (· = A) w (w1.setCell ⟨A,o,none⟩ u):=by
  intro w1 o u J g l z;have K:=i.new g;have:=z7 K.at_ o u;rw[l] at this;exact⟨⟨this,z⟩,(g.mono (fun _ _ h=>h.elim)).set1 o u⟩
 have z:=i.len
 cases x with
 | ch =>
  obtain⟨p,q,rfl,H,I,C,E⟩:=hv;refine⟨_,_,rfl,enters_of Tryz.func138 (by kernel_rfl) rfl,?_⟩;refine(q0w 124 1 A p q m.ch m w (enters_of Tryz.func124 (by kernel_rfl) rfl) (zdx A) C i rfl).mono ?_;rintro e w' ⟨l,w1,g,rfl⟩;exact⟨l,t w1 1 _ _ g (zhj m 0) z⟩
 | id =>
  obtain⟨p,q,rfl,H,I,C,E⟩:=hv;refine⟨_,_,rfl,enters_of Tryz.func119 (by kernel_rfl) rfl,?_⟩;refine(qp3 103 2 A p q m.id m w (enters_of Tryz.func103 (by kernel_rfl) rfl) (zdt A) C i rfl).mono ?_;rintro e w' ⟨l,w1,g,rfl⟩;exact⟨l,t w1 2 _ _ g (zhk m 0) z⟩
 | amount =>
  obtain⟨p,q,rfl,H,I,C,E⟩:=hv;refine⟨_,_,rfl,enters_of Tryz.func119 (by kernel_rfl) rfl,?_⟩;refine(qp3 104 3 A p q m.amount m w (enters_of Tryz.func104 (by kernel_rfl) rfl) (zdu A) C i rfl).mono ?_;rintro e w' ⟨l,w1,g,rfl⟩;exact⟨l,t w1 3 _ _ g (q28 m 0) z⟩
 | expiry =>
  obtain⟨p,q,rfl,H,I,C,E⟩:=hv;refine⟨_,_,rfl,enters_of Tryz.func122 (by kernel_rfl) rfl,?_⟩;have L:m.cells[36]? = some (.int .i64 m.expiry):=by
   have:=i.cells.2.2.2.2.1;rwa [qh i.at_,List.getElem?_toArray] at this
  refine(qp2 106 36 A p q m.expiry m w (enters_of Tryz.func106 (by kernel_rfl) rfl) (zdv A) C i L).mono ?_;rintro e w' ⟨l,w1,g,rfl⟩;exact⟨l,t w1 36 _ _ g (q3a m z 0) z⟩
 | number =>
  obtain⟨p,q,rfl,H,I,C,E⟩:=hv;refine⟨_,_,rfl,enters_of Tryz.func122 (by kernel_rfl) rfl,?_⟩;have L:m.cells[37]? = some (.int .i64 m.number):=by
   have:=i.cells.2.2.2.2.2.1;rwa [qh i.at_,List.getElem?_toArray] at this
  refine(qp2 107 37 A p q m.number m w (enters_of Tryz.func107 (by kernel_rfl) rfl) (zdw A) C i L).mono ?_;rintro e w' ⟨l,w1,g,rfl⟩;exact⟨l,t w1 37 _ _ g (q3b m z 0) z⟩
 | hash =>
  have hv:v=_:=hv;subst hv;refine⟨_,_,rfl,enters_of Tryz.func109 (by kernel_rfl) rfl,?_⟩;refine(qxq A m w i).mono ?_;rintro e w' ⟨l,w1,g,rfl⟩;have K:=i.new g;have M:=qa2 K.at_ 4 (qx zv);rw[zbz m z zv qs] at M;exact⟨l,⟨M,qs⟩,(g.mono (fun _ _ h=>h.elim)).setCells 4 _⟩
end Go.Proofs.YthnohmjbbeahmaaGreatDoor
namespace Go.Proofs.YthnohmjbbeahmaaGreatDoor
open Go.RowKit
theorem qah(n:Int)(F:FuncId)(w:World):Calls Tryz.prog 102 #[.int .i64 n,.func (.func F) #[] #[]] w fun e w'=>∃v,e = .returned v∧qu w w'∧qjg w.heap.size w' v 119 F n:=by
 go_enter Tryz.func102,Tryz.ntmps102;go_wp2_with fail;go_ret;have g:=qi (w.alloc (.cells #[.int .i64 n] 3)) (.cells #[.func (.func F) #[] #[]] 177);rw[World.size_alloc] at g;exact⟨_,rfl,((Upd.refl _ _).alloc _).alloc _,_,_,rfl,by omega,by omega,by rw[qh g];rfl,by rw[qh (zj (qi _ _) _)];rfl⟩
theorem qav(n:Int)(F:FuncId)(w:World):Calls Tryz.prog 105 #[.int .i64 n,.func (.func F) #[] #[]] w fun e w'=>∃v,e = .returned v∧qu w w'∧qjg w.heap.size w' v 122 F n:=by
 go_enter Tryz.func105,Tryz.ntmps105;go_wp2_with fail;go_ret;have g:=qi (w.alloc (.cells #[.int .i64 n] 3)) (.cells #[.func (.func F) #[] #[]] 180);rw[World.size_alloc] at g;exact⟨_,rfl,((Upd.refl _ _).alloc _).alloc _,_,_,rfl,by omega,by omega,by rw[qh g];rfl,by rw[qh (zj (qi _ _) _)];rfl⟩
theorem qnt(n:Int)(F:FuncId)(w:World):Calls Tryz.prog 123 #[.int .i64 n,.func (.func F) #[] #[]] w fun e w'=>∃v,e = .returned v∧qu w w'∧qjg w.heap.size w' v 138 F n:=by
 go_enter Tryz.func123,Tryz.ntmps123;go_wp2_with fail;go_ret;have g:=qi (w.alloc (.cells #[.int .i64 n] 3)) (.cells #[.func (.func F) #[] #[]] 195);rw[World.size_alloc] at g;exact⟨_,rfl,((Upd.refl _ _).alloc _).alloc _,_,_,rfl,by omega,by omega,by rw[qh g];rfl,by rw[qh (zj (qi _ _) _)];rfl⟩
theorem qjg.later{a b:Nat}{w:World}{v:Value}{f F:FuncId}{n:Int}(h:qjg b w v f F n)(ab:a≤b):qjg a w v f F n:=by
 obtain⟨p,q,e,g,i,r⟩:=h;exact⟨p,q,e,by omega,by omega,r⟩
theorem qkn.later{a b:Nat}{w:World}{v:Value}{x:Fld}(h:qkn b w v x)(ab:a≤b):qkn a w v x:=by
 cases x<;>first | exact qjg.later h ab | exact h
structure FldsO(base:Nat)(w:World)(v:Value)(xs:List Fld):Prop where
 row:∃vs:List Value,w.ownsRow base 174 1 v xs.length vs∧vs.length=xs.length∧∀(i:Nat) (x:Fld) (u:Value),xs[i]? = some x→vs[i]? = some u→qkn base w u x
theorem Tryz.zeroFld:((Tryz.prog.info? 174).map fun i=>(i.zero.map (·.cells.size),i.size,decide (i.bytes≤1000)))=some (some 1,1,true):=by kernel_rfl
theorem q9x:∃i z b,Tryz.prog.info? 174=some i∧i.zero=some z∧i.size=1∧i.bytes=b∧z.cells.size=1∧b≤1000:=by
 have h:=Tryz.zeroFld;cases m:Tryz.prog.info? 174 with
 | none=>rw[m] at h;cases h
 | some i =>
  rw[m] at h;simp only[Option.map_some,Option.some.injEq,Prod.mk.injEq] at h;obtain⟨g,o,q⟩:=h;cases l:i.zero with
  | none=>rw[l] at g;cases g
  | some z =>
   rw[l] at g;exact⟨i,z,i.bytes,rfl,l,o,rfl,by simpa using g,of_decide_eq_true q⟩
set_option maxRecDepth 100000 in
set_option maxHeartbeats 1000000 in
theorem qhp(g:Nat)(m:List Value)(w:World)(hg:w.heap[g]? = some (.cells m.toArray 174 (0,0)))(h1:∀v∈m,v.oneCell'=true)(hl:m.length≤100) :
  Calls Tryz.prog 108 #[.slice (some ⟨g,0,none⟩) m.length m.length] w fun e w'=>∃v c,e = .returned (.tuple #[v,.bool true])∧qu w w'∧w'.ownsRow w.heap.size 174 1 v (1+m.length) (c::m)∧qkn w.heap.size w' c .ch:=by
 obtain⟨i9,z9,b9,J,P,M,N,O,I⟩:=q9x
 have X:=qnt 4 124 w
 go_enter Tryz.func108,Tryz.ntmps108
 go_wp2_with fail
 refine X.mono ?_
 rintro e w1 ⟨c,rfl,H,p,q,rfl,hp,hq,U,V⟩
 clear X
 have lp:=World.block_lt_of_cell? w1 _ U
 have lq:=World.block_lt_of_cell? w1 _ V
 change p<_ at lp
 change q<_ at lq
 obtain⟨c,z⟩:∃c:Value,c = .func (.func 138) #[] #[.pointer (some ⟨p,0,none⟩),.pointer (some ⟨q,0,none⟩)]:=⟨_,rfl⟩
 have E:=qb z
 have o:(w1.alloc (.cells #[c] 174)).ownsRow w.heap.size 174 1 (.slice (some ⟨w1.heap.size,0,none⟩) 1 1) 1 [c] :=
  ⟨rfl,.inr ⟨w1.heap.size,1,#[c],rfl,H.size,qi _ _,Nat.le_refl _,by decide,rfl,rfl⟩⟩
 have C:(w1.alloc (.cells #[c] 174)).heap[g]? = some (.cells m.toArray 174 (0,0)):=(H.alloc (.cells #[c] 174)).old hg (fun h=>h)
 rw[z] at o C
 clear z
 go_wp2_with (at_builtin;refine wpList_append_own _ rfl (.tmp 7) (.tmp 8) 149 rfl w.heap.size 174 i9 _ 1 b9 Tryz.underlying149 J P M N O (by decide) _ _ _ rfl o ⟨g,0,none⟩ m.length m.length m rfl (by rw[Nat.mul_one]) ?c1 h1 ?c3 ?c4 ?c5 ?_)
 case c1=>exact World.news_of_block (cs:=m.toArray) (fr:=(0,0)) C
 case c3=>unfold maxLen;omega
 case c4=>have:=Nat.mul_le_mul (show 1+m.length≤101 by omega) I;omega
 case c5=>have:=H.size;rw[World.size_alloc];omega
 intro v' T l i _
 obtain⟨wa,D⟩:∃wa:World,wa=w1.alloc (.cells #[.func (.func 138) #[] #[.pointer (some ⟨p,0,none⟩),.pointer (some ⟨q,0,none⟩)]] 174):=⟨_,rfl⟩
 have t:qu w1 wa:=by rw[D];exact(Upd.refl _ _).alloc _
 rw[←D] at i
 have W:qu w T:=(H.trans t).grown i (fun k K L=>by
  simp only[Value.ownBlock,Option.some.injEq] at K;have:=H.size;omega)
 have R:Upd (fun k=>k=w1.heap.size) wa T:=(Upd.refl _ _).grown i (fun k K L=>by
  simp only[Value.ownBlock,Option.some.injEq] at K;omega)
 have F:qkn w.heap.size T c .ch:=by
  exact⟨p,q,qa E,hp,hq,R.cell (t.cell U (fun h=>h)) (by show ¬p=_;omega),R.cell (t.cell V (fun h=>h)) (by show ¬q=_;omega)⟩
 rw[←qa E] at l
 have HO:=qb l
 have Y:=qb F
 have Z:=qb W
 clear l i F W R o C t D
 go_wp2_with fail
 go_ret2
 exact⟨_,c,rfl,qa Z,qa HO,qa Y⟩
set_option maxRecDepth 100000 in
set_option maxHeartbeats 1000000 in
theorem quk(w:World) :
  Calls Tryz.prog 108 #[.slice none 0 0] w fun e w'=>∃v c,e = .returned (.tuple #[v,.bool true])∧qu w w'∧w'.ownsRow w.heap.size 174 1 v 1 [c]∧qkn w.heap.size w' c .ch:=by
 have i:=qnt 4 124 w
 go_enter Tryz.func108,Tryz.ntmps108
 go_wp2_with fail
 refine i.mono ?_
 rintro e w1 ⟨c,rfl,l,p,q,rfl,t,z,m,o⟩
 clear i
 go_wp2_with fail
 go_ret2
 have g:qu w1 (w1.alloc (.cells #[.func (.func 138) #[] #[.pointer (some ⟨p,0,none⟩),.pointer (some ⟨q,0,none⟩)]] 174)):=(Upd.refl _ _).alloc _
 exact⟨_,_,rfl,l.trans g,⟨rfl,.inr ⟨w1.heap.size,1,_,rfl,l.size,qi _ _,Nat.le_refl _,by decide,rfl,rfl⟩⟩,⟨p,q,rfl,t,z,g.cell m (fun h=>h),g.cell o (fun h=>h)⟩⟩
end Go.Proofs.YthnohmjbbeahmaaGreatDoor
