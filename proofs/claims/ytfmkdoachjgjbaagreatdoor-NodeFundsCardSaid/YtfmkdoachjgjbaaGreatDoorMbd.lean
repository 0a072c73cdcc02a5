/-
  The shelf: Insert$1, lowest.
-/
import Derived.Test.YtfmkdoachjgjbaaGreatDoorMbc
import Derived.Test.YtfmkdoachjgjbaaGreatDoorMbb
import Derived.Test.YtfmkdoachjgjbaaGreatDoorMai
set_option maxRecDepth 100000
set_option maxHeartbeats 2000000
set_option linter.unusedVariables false
set_option linter.unusedSimpArgs false
namespace Go.Proofs.YtfmkdoachjgjbaaGreatDoor
section
open Go.RowKit
theorem KeptV.len(k:KeptV)(h:k.told.length=32):k.cells.length=34:=by simp[KeptV.cells,h]
theorem KeptV.one(k:KeptV):∀v∈k.cells,v.oneCell'=true:=by
 intro v i;simp only[KeptV.cells,List.mem_cons,List.mem_map] at i;rcases i with rfl | rfl | ⟨n,_,rfl⟩<;>rfl
theorem Tryz.infoKpt:(Tryz.prog.info? 120).map (·.size)=some 34:=by kernel_rfl
def q8x(x:Value):Sem Value:=Instr.loadAt 120 x
theorem qln(x:Value):Instr.loadAt 120 x=q8x x:=rfl
theorem q4m(b o:Nat)(w:World):(q8x (.pointer (some ⟨b,o,none⟩))).run Tryz.prog w=match zt w b o 34 with | some A=> .ok (.agg A) w | none=>qc3 Tryz.prog 120 w b o :=
 qag 120 34 _ Tryz.underlying120 rfl Tryz.infoKpt b o w
def q88(x v:Value):Sem Unit:=Instr.storeAt 120 x v
theorem qlt(x v:Value):Instr.storeAt 120 x v=q88 x v:=rfl
theorem q5v(b o:Nat)(A:Array Value)(w:World):(q88 (.pointer (some ⟨b,o,none⟩)) (.agg A)).run Tryz.prog w=if stOk w b o 34 A=true then .ok () (w.setCells b o A.toList) else qes Tryz.prog 120 w b o A :=
 qaz 120 34 Tryz.infoKpt b o A w
theorem KeptV.zero_len:KeptV.zero.told.length=32:=List.length_replicate
def q8k:Sem Value:=Instr.alloc 120 true (.tuple #[])
theorem qk1:Instr.alloc 120 true (.tuple #[])=q8k:=rfl
theorem q2b(w:World):q8k.run Tryz.prog w = .ok (.pointer (some ⟨w.heap.size,0,none⟩)) (w.alloc (.cells KeptV.zero.cells.toArray 120)):=by kernel_rfl
def q2k(p:Array (Nat × Value)):Sem Value:=Instr.build 120 p
theorem qk5(p:Array (Nat × Value)):Instr.build 120 p=q2k p:=rfl
theorem qk6(w:World):(q2k #[]).run Tryz.prog w = .ok (.agg KeptV.zero.cells.toArray) w:=run_build w _ _ _ (by kernel_rfl)
theorem Tryz.zeroKpt:((Tryz.prog.info? 120).map fun i=>i.zero.map fun z=>z.cells.toList)=some (some KeptV.zero.cells):=by kernel_rfl
theorem Tryz.placesKpt:∃m,Tryz.prog.underlying 120=some (.struct m)∧m.toList.mapM (fun f=>(Tryz.prog.info? f.type).map fun i=>(f.offset,i.size))=some [(0,1),(1,1),(2,32)]:=⟨_,Tryz.underlying120,by kernel_rfl⟩
theorem qy6(b:Bool)(n:Int)(H:List Value)(h:H.length=32):Tryz.prog.built 120 [(0,.bool b),(1,.int .i64 n),(2,.agg H.toArray)]=some (.bool b :: .int .i64 n::H).toArray:=by
 obtain⟨i,z,o,v,m⟩:=qcv Tryz.zeroKpt;obtain⟨x,t,q⟩:=Tryz.placesKpt;rw[qbc o t v q];rw[qbm (P:=[]) (z:= .bool false) (R:= .int .i64 0::(zm.map (Value.int .u8))) rfl rfl rfl m];rw[qbm (P:=[.bool b]) (z:= .int .i64 0) (R:=zm.map (Value.int .u8)) rfl rfl rfl (by rfl)];rw[qcq (P:=[.bool b,.int .i64 n]) (A:=H) (Z:=zm.map (Value.int .u8)) (R:=[]) (off:=2) (by rw[h];rfl) rfl (by rw[h];rfl) (by rfl)];rw[Instr.fill];simp
theorem q9k(b:Bool)(n:Int)(h:List Int)(i:h.length=32)(w:World):(q2k #[(0,.bool b),(1,.int .i64 n),(2,.agg (qw h).toArray)]).run Tryz.prog w = .ok (.agg (KeptV.cells ⟨b,n,h⟩).toArray) w :=
 run_build w _ _ _ (qy6 b n (qw h) (by rw[qal,i]))
structure KpS(w:World)(b:Nat)(k:KeptV):Prop where
 at_:w.heap[b]? = some (.cells k.cells.toArray 120 (0,0))
 len:k.told.length=32
section
variable {S:Nat→Prop}{w w':World}{b:Nat}{k:KeptV}
theorem KpS.upd(a:KpS w b k)(u:Upd S w w')(n:¬S b):KpS w' b k:=⟨u.old a.at_ n,a.len⟩
theorem KpS.new(a:KpS w b k)(u:qq w w'):KpS w' b k:=a.upd u (fun h=>h)
theorem KpS.lt(a:KpS w b k):b<w.heap.size:=zi a.at_
theorem KpS.row(a:KpS w b k):zt w b 0 34=some k.cells.toArray:=qaj a.at_ 34 (by rw[List.size_toArray,k.len a.len])
theorem KpS.stOk(a:KpS w b k){j:KeptV}(i:j.told.length=32):stOk w b 0 34 j.cells.toArray=true:=by
 have:=qdk a.at_ (A:=j.cells) (by rw[List.size_toArray,k.len a.len,j.len i]) j.one;rwa [List.size_toArray,k.len a.len] at this
theorem KpS.put(a:KpS w b k){j:KeptV}(i:j.told.length=32):KpS (w.setCells b 0 j.cells) b j:=by
 refine⟨?_,i⟩;rw[qax a.at_ 0 _,qb5 _ _ (by rw[List.size_toArray,k.len a.len,j.len i])]
theorem KpS.c0(a:KpS w b k):w.cell? ⟨b,0,none⟩=some (.bool k.full):=qk a.at_ 0
theorem KpS.c1(a:KpS w b k):w.cell? ⟨b,1,none⟩=some (.int .i64 k.number):=qk a.at_ 1
theorem KpS.hsh(a:KpS w b k):zt w b 2 32=some (qw k.told).toArray:=by
 rw[qby a.at_ 2 32 (by rw[List.size_toArray,k.len a.len];omega)];congr 1;apply Array.ext';rw[Array.toList_extract];unfold KeptV.cells;show List.take 32 (qw k.told)=qw k.told;exact List.take_of_length_le (by rw[qal,a.len];exact Nat.le_refl _)
end
theorem qjg(w:World)(k:KeptV)(i:k.told.length=32):KpS (w.alloc (.cells k.cells.toArray 120)) w.heap.size k:=⟨ql _ _,i⟩
attribute [local go_sem ↓ high] zl qaf qah qa1 qln qlt qk1 qk5 qh2
attribute [local go_sem] qa9 qb3 qb7 qdp qy q4m q5v q2b qk6
def qh3(told:List Int)(i:Int)(k:KeptV):Bool:=(qct told i k.number).2==0&&(qct told i k.number).1 != k.told
theorem qrh(h:List Int)(b:Nat):qbt (qd8 h b):=qhd _
theorem qv2(l:List Nat):∀h:List Int,qbt h→qbt (l.foldl qd8 h):=by
 induction l with
 | nil=>intro h i;exact i
 | cons b l m=>intro h _;rw[List.foldl_cons];exact m _ (qrh h b)
theorem qri(h:List Int)(m:qbt h)(i d:Nat):qbt (qdq h i d):=qv2 _ h m
theorem qox(h:List Int)(i:qbt h)(f t:Int):qbt (qct h f t).1:=by
 unfold qct;split
 ·exact qri h i _ _
 ·exact qfg
theorem qty(told:List Int)(V:told.length=32)(hb:qbt told)(i:Int)(k:KeptV)(R:k.told.length=32)(kb:qbt k.told)(A I:Nat)(w:World)(hA:HsB w A told)(hI:w.cell? ⟨I,0,none⟩=some (.int .i64 i))(hT:Tabs w)(hD:Deb w) :
  Calls Tryz.prog 219 #[.agg k.cells.toArray,.pointer (some ⟨A,0,none⟩),.pointer (some ⟨I,0,none⟩)] w (qar (.bool (qh3 told i k)) w):=by
 go_enter Tryz.func219,Tryz.ntmps219
 go_upto_region 1 with fail
 have y:=qjg w k R
 have q:qq w (w.alloc (.cells k.cells.toArray 120)):=(Upd.refl _ _).alloc _
 generalize w.alloc (.cells k.cells.toArray 120)=w1 at y q ⊢
 obtain⟨B,z⟩:∃B,B=w.heap.size:=⟨_,rfl⟩
 rw[←z] at y ⊢
 have a1:w.heap.size≤B:=by omega
 clear z
 have Y:=y.c1
 have rA:=(hA.new q).row
 have Z:=q.cell hI (fun h=>h)
 have hd:=qvu told V i k.number w1 (hT.new q) (hD.new q)
 have T:=qtd told V i k.number
 have J:=qox told hb i k.number
 have U:qh3 told i k=((qct told i k.number).2==0&&(qct told i k.number).1 != k.told):=rfl
 have t:=qj U
 have X:=qj y
 clear U y
 generalize qct told i k.number=K at *
 go_wp2_with fail
 refine hd.mono ?_
 rintro e C ⟨rfl,N⟩
 obtain⟨M,P,O⟩:=qf7 C K.1 T
 have D:=qj P
 have v:=qj (((qg X).new N).new O)
 have m:=qj ((q.trans N).trans O)
 clear hd Y rA Z q N P O
 go_upto_region 2 with fail
 change Code.wp _ _ _ _ (qhh C K.1)
 generalize qhh C K.1=w3 at D v m ⊢
 generalize C.heap.size=H at D ⊢
 clear M
 have a2:=fun W=>q4t T R J kb W
 have rH:=(qg D).row
 have rK:=(qg v).hsh
 cases x:K.2==0 with
 | false =>
  have o:Hid (qh3 told i k=false):=by rw[x,Bool.false_and] at t;exact t
  clear t rH rK;have E:¬K.2=0:=by simpa using x
  go_wp2_with fail;go_ret;exact⟨by rw[qg o];rfl,qg m⟩
 | true =>
  have o:Hid (qh3 told i k=(K.1 != k.told)):=by rw[x,Bool.true_and] at t;exact t
  have E:K.2=0:=by simpa using x
  clear t x;go_wp2_with fail;go_ret;exact⟨by rw[qg o];rfl,qg m⟩
theorem qtf{α:Type}{A B:List α}{n:Nat}(h:A.length=n):(A++B).drop n=B:=by subst h;simp
theorem qvz(X:List KeptV)(m:∀p∈X,p.told.length=32):∀(i:Nat) (x:KeptV),X[i]? = some x→∃R,(X.flatMap KeptV.cells).drop (i*34)=x.cells++R:=by
 induction X with
 | nil=>intro i x h;simp at h
 | cons y X v =>
  intro i x h;have t:y.cells.length=34:=y.len (m y (List.mem_cons_self ..));cases i with
  | zero =>
   simp only[List.getElem?_cons_zero,Option.some.injEq] at h;subst h;exact⟨X.flatMap KeptV.cells,by simp⟩
  | succ i =>
   rw[List.getElem?_cons_succ] at h;obtain⟨R,o⟩:=v (fun p q=>m p (List.mem_cons_of_mem _ q)) i x h;refine⟨R,?_⟩;rw[List.flatMap_cons,Nat.add_mul,Nat.one_mul,Nat.add_comm (i*34) 34,←List.drop_drop,qtf t,o]
theorem ChP.kept{w:World}{g:Nat}{S:Nat→Prop}{c:Ch}{m t o:Value}(h:ChP w g S c m t o){i:Nat}{p:KeptV}(y:c.shelf[i]? = some p):zt w g (48+i*34) 34=some p.cells.toArray:=by
 have H:=h.ok.s.seed;have I:=(List.getElem?_eq_some_iff.1 y).1;have C:=h.ok.shelf.2 p (List.mem_of_getElem? y);have x:c.s.cells.length=37:=c.s.len H;have K:(c.shelf.flatMap KeptV.cells).length=578:=by rw[qgo _ h.ok.shelf.2,h.ok.shelf.1]
 have z:(c.v m t o).cells=(c.s.cells++(c.k.cells++[.int .u64 c.loc,.int .u64 c.rem,m]))++(c.shelf.flatMap KeptV.cells++[t,o]):=by
  show c.s.cells++(c.k.cells++(Value.int .u64 c.loc :: .int .u64 c.rem::m::(c.shelf.flatMap KeptV.cells++[t,o])))=_;simp
 have q:(c.s.cells++(c.k.cells++[.int .u64 c.loc,.int .u64 c.rem,m])).length=48:=by
  rw[List.length_append,List.length_append,x];rfl
 have D:=h.ok.shelf.1;have J:48+i*34+34≤(c.v m t o).cells.toArray.size:=by
  rw[List.size_toArray,z,List.length_append,q,List.length_append,K];show 48+i*34+34≤48+(578+2);omega
 rw[qby h.at_ _ 34 J];congr 1;apply Array.ext';rw[Array.toList_extract,z];show List.extract (_++_) (48+i*34) (48+i*34+34)=_;rw[List.extract_eq_take_drop,Nat.add_sub_cancel_left,←List.drop_drop,qtf q];obtain⟨R,E⟩:=qvz c.shelf h.ok.shelf.2 i p y;rw[List.drop_append_of_le_length (by omega),E,List.append_assoc,List.take_append_of_le_length (by rw[p.len C];exact Nat.le_refl _),List.take_of_length_le (by rw[p.len C];exact Nat.le_refl _)]
def ql7(told:List Int)(i:Int)(ps:List KeptV):Option KeptV:=ps.find? fun k=>k.full&&qh3 told i k
def q0j(told:List Int)(i:Int)(ps:List KeptV):KeptV:=(ql7 told i ps).getD KeptV.zero
theorem qwr(g:Nat)(S:Nat→Prop)(c:Ch)(lv nv av:Value)(n:Nat)(told:List Int)(ht:told.length=32)(hb:qbt told)(i:Int)(A I:Nat)(w:World)(h:ChP w g S c lv nv av)(a2:∀p∈c.shelf,qbt p.told)(hn:n≤17)
  (hA:HsB w A told) (hI:w.cell? ⟨I,0,none⟩=some (.int .i64 i)) (hT:Tabs w) (hD:Deb w) :
  Calls Tryz.prog 218 #[.pointer (some ⟨g,48,none⟩),.int .i64 n,.func (.func 219) #[] #[.pointer (some ⟨A,0,none⟩),.pointer (some ⟨I,0,none⟩)]] w (qar (.tuple #[.agg (q0j told i (c.shelf.take n)).cells.toArray,.bool (ql7 told i (c.shelf.take n)).isSome]) w):=by
 have b2:(n:Int)≤17:=by omega
 go_enter Tryz.func218,Tryz.ntmps218
 go_upto_region 1 with fail
 have X:=qjg w KeptV.zero KeptV.zero_len
 have C:qq w (w.alloc (.cells KeptV.zero.cells.toArray 120)):=(Upd.refl _ _).alloc _
 generalize w.alloc (.cells KeptV.zero.cells.toArray 120)=w1 at X C ⊢
 obtain⟨R,N⟩:∃R,R=w.heap.size:=⟨_,rfl⟩
 rw[←N] at X ⊢
 have a8:w.heap.size≤R:=by omega
 clear N
 have H1:=qj (h.new C)
 have HA:=qj (hA.new C)
 have HI:=qj (C.cell hI (fun h=>h))
 have HT:=qj (hT.new C)
 have HD:=qj (hD.new C)
 have HR:=qj X
 have HN:=qj C
 clear h hA hI hT hD X C
 go_wp2_with fail
 go_loopw [9,16] (fun _ iv wr=>∃j:Nat,iv = .int .i64 (j:Int)∧j≤n∧Hid (ql7 told i (c.shelf.take j)=none)∧qq w1 wr) (fun _ iv _=>n-(intOf iv).toNat)
 case atStart=>exact⟨0,rfl,Nat.zero_le _,qj rfl,Upd.refl _ _⟩
 case round =>
  obtain⟨j,rfl,hj,t,M⟩:=hrel;obtain⟨v,rfl⟩:∃v:World,v=wr:=⟨_,rfl⟩;by_cases b1:j<n
  ·have W:=(qg H1).new M;have a1:=W.ok.shelf.1;obtain⟨p,U⟩:∃p,c.shelf[j]? = some p:=⟨_,List.getElem?_eq_getElem (by omega)⟩;have E:=List.mem_of_getElem? U;have q:=W.ok.shelf.2 p E;have a6:=a2 p E;have V:=W.kept U;have ha:=qjg v KeptV.zero KeptV.zero_len;have H:=ha.stOk q;have z:=ha.put q;have D:qq v ((v.alloc (.cells KeptV.zero.cells.toArray 120)).setCells v.heap.size 0 p.cells):=(((Upd.refl (fun _=>False) v).alloc _)).then (zy _) (fun i hi e=>by omega);have b0:(j:Int)<(n:Int):=by omega
   have T:ql7 told i (c.shelf.take (j+1))=if (p.full&&qh3 told i p)=true then some p else none:=by
    unfold ql7 at t ⊢;rw[List.take_add_one,U,List.find?_append,qg t];simp only[Option.none_or,Option.toList_some,List.find?_cons,List.find?_nil];cases (p.full&&qh3 told i p)<;>rfl
   have y:=qj T;have a7:=qj U;clear W E ha T U a1;go_upto_region 4 with fail;have J:=qj z;have m:=M.trans D;generalize (v.alloc (.cells KeptV.zero.cells.toArray 120)).setCells v.heap.size 0 p.cells=w5 at J m ⊢;generalize v.heap.size=K at J ⊢;clear H z D V M;have c0:=(qg J).c0;cases Y:p.full with
   | false =>
    rw[Y] at c0;rw[Y,Bool.false_and] at y;go_wp2_with fail;go_roundw
    case rel=>exact⟨j+1,by go_num,by omega,by rw[if_neg (by decide)] at y;exact y,m⟩
    case measure=>simp[intOf];omega
   | true =>
    rw[Y] at c0;rw[Y,Bool.true_and] at y;have rK:=(qg J).row;have O:=qty told ht hb i p q a6 A I w5 ((qg HA).new m) (m.cell (qg HI) (fun h=>h)) ((qg HT).new m) ((qg HD).new m);go_wp2_with fail;refine O.mono ?_;rintro e w6 ⟨rfl,n6⟩;have x:=m.trans n6;have Z:=qj ((qg J).new n6);clear O rK c0 J;cases ho:qh3 told i p with
    | false =>
     rw[ho,if_neg (by decide)] at y;go_wp2_with fail;go_roundw
     case rel=>exact⟨j+1,by go_num,by omega,y,x⟩
     case measure=>simp[intOf];omega
    | true =>
     rw[ho,if_pos rfl] at y;have b3:=(qg Z).row;have o:=(qg HR).new x;have H:=o.stOk q;have HF:=qj (o.put q);have HU:=qj (((qg HN).trans x).then (zy (w:=w6) (b:=R) p.cells) (fun i hi e=>by omega));clear o m n6 x;go_wp2_with fail;have hF:=qg HF;refine bodyPost_ret (zb rfl _ _ R _ _ _ _ rfl hF.at_ Tryz.underlying120 rfl (by rw[List.size_toArray,p.len q];exact Tryz.infoKpt)) rfl ?_;have P:ql7 told i (c.shelf.take n)=some p:=by
      have e:c.shelf.take n=c.shelf.take (j+1)++(c.shelf.drop (j+1)).take (n-(j+1)):=by
       rw[←List.take_add,Nat.add_sub_cancel' (by omega)]
      have h0:=qg y;unfold ql7 at h0 ⊢;rw[e,List.find?_append,h0];rfl
     refine⟨?_,qg HU⟩;unfold q0j;rw[P];rfl
  ·obtain rfl:j=n:=by omega
   have o:=(qg HR).new M;have H:=o.stOk KeptV.zero_len;have HF:=qj (o.put KeptV.zero_len);have HU:=qj (((qg HN).trans M).then (zy (w:=v) (b:=R) KeptV.zero.cells) (fun i hi e=>by omega));clear o M;go_wp2_with fail;have hF:=qg HF;refine bodyPost_ret (zb rfl _ _ R _ _ _ _ rfl hF.at_ Tryz.underlying120 rfl (by rw[List.size_toArray,KeptV.zero.len KeptV.zero_len];exact Tryz.infoKpt)) rfl ?_;refine⟨?_,qg HU⟩;unfold q0j;rw[qg t];rfl
end
section
open Go.RowKit
theorem qp1(P Z R Q:List Value)(o:Nat)(q:P.length=o)(h:Z.length=Q.length):qhz (P++(Z++R)).toArray o Q=(P++(Q++R)).toArray:=by
 apply Array.ext';apply List.ext_getElem?;intro j;have i:(P++(Z++R)).toArray.size=P.length+(Z.length+R.length):=by simp
 rw[Array.getElem?_toList,qig _ _ _ _ (by rw[i];omega),List.getElem?_toArray];by_cases m:o≤j∧j<o+Q.length
 ·rw[if_pos m,List.getElem?_append_right (by omega),List.getElem?_append_left (by omega),q]
 ·rw[if_neg m];by_cases t:j<o
  ·rw[List.getElem?_append_left (by omega),List.getElem?_append_left (by omega)]
  ·rw[List.getElem?_append_right (by omega),List.getElem?_append_right (by omega),List.getElem?_append_right (by omega),List.getElem?_append_right (by omega),h]
theorem qx6(X:List KeptV){i:Nat}{x:KeptV}(h:X[i]? = some x):X.flatMap KeptV.cells=(X.take i).flatMap KeptV.cells++(x.cells++(X.drop (i+1)).flatMap KeptV.cells):=by
 have m:=(List.getElem?_eq_some_iff.1 h).1;have o:=(List.getElem?_eq_some_iff.1 h).2
 conv=>lhs;rw[←List.take_append_drop i X]
 rw[List.flatMap_append,List.drop_eq_getElem_cons m,o,List.flatMap_cons]
theorem ChP.putKept{w:World}{g:Nat}{S:Nat→Prop}{c:Ch}{m t o:Value}(h:ChP w g S c m t o){i:Nat}{p k:KeptV}(I:c.shelf[i]? = some p)(y:k.told.length=32) :
  stOk w g (48+i*34) 34 k.cells.toArray=true∧ChP (w.setCells g (48+i*34) k.cells) g S {c with shelf:=c.shelf.set i k} m t o:=by
 have Y:=h.ok.s.seed
 have J:=(List.getElem?_eq_some_iff.1 I).1
 have U:=h.ok.shelf.2 p (List.mem_of_getElem? I)
 have H:c.s.cells.length=37:=c.s.len Y
 have E:=h.ok.shelf.1
 have z:(c.s.cells++(c.k.cells++[.int .u64 c.loc,.int .u64 c.rem,m])).length=48:=by
  rw[List.length_append,List.length_append,H];rfl
 have N:((c.shelf.take i).flatMap KeptV.cells).length=i*34:=by
  rw[qgo _ (fun q K=>h.ok.shelf.2 q (List.mem_of_mem_take K)),List.length_take,Nat.min_eq_left (by omega)]
 have D:∀(s:List KeptV),(({c with shelf:=s} : Ch).v m t o).cells=(c.s.cells++(c.k.cells++[.int .u64 c.loc,.int .u64 c.rem,m]))++(s.flatMap KeptV.cells++[t,o]):=by
  intro s;show c.s.cells++(c.k.cells++(Value.int .u64 c.loc :: .int .u64 c.rem::m::(s.flatMap KeptV.cells++[t,o])))=_;simp
 have P:(c.v m t o).cells=((c.s.cells++(c.k.cells++[.int .u64 c.loc,.int .u64 c.rem,m]))++(c.shelf.take i).flatMap KeptV.cells)++(p.cells++((c.shelf.drop (i+1)).flatMap KeptV.cells++[t,o])):=by
  refine(D c.shelf).trans ?_;rw[qx6 c.shelf I];simp only[List.append_assoc]
 have C:(c.shelf.set i k)[i]? = some k:=by rw[List.getElem?_set_self J]
 have W:(({c with shelf:=c.shelf.set i k} : Ch).v m t o).cells=((c.s.cells++(c.k.cells++[.int .u64 c.loc,.int .u64 c.rem,m]))++(c.shelf.take i).flatMap KeptV.cells)++(k.cells++((c.shelf.drop (i+1)).flatMap KeptV.cells++[t,o])):=by
  refine(D _).trans ?_;rw[qx6 (c.shelf.set i k) C,List.take_set_of_le (Nat.le_refl _),List.drop_set_of_lt (by omega)];simp only[List.append_assoc]
 have R:((c.s.cells++(c.k.cells++[.int .u64 c.loc,.int .u64 c.rem,m]))++(c.shelf.take i).flatMap KeptV.cells).length=48+i*34:=by
  rw[List.length_append,z,N]
 have M:48+i*34+34≤(c.v m t o).cells.toArray.size:=by
  rw[List.size_toArray,P,List.length_append,R,List.length_append,p.len U];omega
 have x:=qax h.at_ (48+i*34) k.cells
 rw[P,qp1 _ _ _ _ _ R (by rw[p.len U,k.len y]),←W] at x
 refine⟨qd4 h.at_ M (by rw[List.size_toArray,k.len y]) (by rw[Array.all_eq_true_iff_forall_mem];intro v hv;exact k.one v (by simpa using hv)),?_⟩
 have u:Upd (· = g) w (w.setCells g (48+i*34) k.cells):=(Upd.refl _ _).setCells _ _
 have O:∀ {T:TypeId} {v:Value} {n:Nat} {xs:List Value},T≠126→w.ownsRow 0 T 38 v n xs→∀k,v.ownBlock=some k→¬k=g:=by
  intro T v n xs X Z k y e;obtain⟨V,D⟩:=zv Z k y;exact zx D h.at_ X e
 refine⟨x,⟨h.ok.s,h.ok.signed,h.ok.heard,h.ok.nextOwn,h.ok.nextTheirs,h.ok.loc,h.ok.rem,h.ok.xs,h.ok.few,?_,h.ok.news,h.ok.last,h.ok.many⟩,?_,?_,?_,h.inG,h.inL,h.inN,h.inA,h.sep,fun k y=>Nat.lt_of_lt_of_le (h.lt k y) u.size⟩
 ·refine⟨by show (c.shelf.set i k).length=17;rw[List.length_set];exact E,fun q K=> ?_⟩;rcases List.mem_or_eq_of_mem_set K with e | e
  ·exact h.ok.shelf.2 q e
  ·rw[e];exact y
 ·exact zc h.live u (O (by decide) h.live)
 ·exact zc h.news u (O (by decide) h.news)
 ·exact zc h.last u (O (by decide) h.last)
attribute [local go_sem ↓ high] zl qaf qah qa1 qln qlt qk1 qk5 qh2
attribute [local go_sem] qa9 qb3 qb7 qdp qy q4m q5v q2b qk6
def qhy(told:List Int)(i:Int)(ps:List KeptV):Int:=if qrg i i=false then 1 else if (ql7 told i (ps.take (qbj i))).isSome=true then 50 else 0
def qz8(told:List Int)(i:Int)(ps:List KeptV):List KeptV:=if qhy told i ps=0 then ps.set (qbj i) ⟨true,i,told⟩ else ps
theorem qwe(g:Nat)(S:Nat→Prop)(c:Ch)(lv nv av:Value)(told:List Int)(ht:told.length=32)(hb:qbt told)(i:Int)(w:World)(h:ChP w g S c lv nv av)(a8:∀p∈c.shelf,qbt p.told)(hT:Tabs w)(hD:Deb w) :
  Calls Tryz.prog 206 #[.pointer (some ⟨g,48,none⟩),.int .i64 i,.agg (qw told).toArray] w fun e w' =>
   e = .returned (.int .i64 (qhy told i c.shelf))∧ChP w' g S {c with shelf:=qz8 told i c.shelf} lv nv av∧Upd (· = g) w w':=by
 go_enter Tryz.func206,Tryz.ntmps206
 go_upto_region 1 with fail
 have x:((w.alloc (.cells #[.int .i64 i] 3)).alloc (.cells (qw told).toArray 35)).cell? ⟨w.heap.size,0,none⟩=some (.int .i64 i):=by
  rw[qk (qx (ql _ _) _)];rfl
 have U:=qcr (w.alloc (.cells #[.int .i64 i] 3)) told ht
 rw[World.size_alloc] at U
 have H:qq w ((w.alloc (.cells #[.int .i64 i] 3)).alloc (.cells (qw told).toArray 35)):=((Upd.refl _ _).alloc _).alloc _
 generalize (w.alloc (.cells #[.int .i64 i] 3)).alloc (.cells (qw told).toArray 35)=w1 at x U H ⊢
 have Z:=h.lt g h.inG
 obtain⟨I,X⟩:∃I,I=w.heap.size:=⟨_,rfl⟩
 obtain⟨A,V⟩:∃A,A=w.heap.size+1:=⟨_,rfl⟩
 rw[←V] at U ⊢
 rw[←X] at x ⊢
 have b4:g≠A:=by omega
 have b5:g≠I:=by omega
 clear X V Z
 have C:=qx2 i i w1 (hD.new H)
 have O:=qj (h.new H)
 have HA:=qj U
 have HT:=qj (hT.new H)
 have HD:=qj (hD.new H)
 have HN:=qj H
 have b1:=h.ok.shelf.1
 have a1:qhy told i c.shelf=if qrg i i=false then 1 else if (ql7 told i (c.shelf.take (qbj i))).isSome=true then 50 else 0:=rfl
 have a2:qz8 told i c.shelf=if qhy told i c.shelf=0 then c.shelf.set (qbj i) ⟨true,i,told⟩ else c.shelf:=rfl
 have m:=qj a1
 have o:=qj a2
 have b6:=qks i
 clear h U hT hD H a1 a2
 go_wp2_with fail
 refine C.mono ?_
 rintro e w2 ⟨rfl,q2⟩
 have q:=q2.cell x
 have M:qq w1 w2:=q2.upd _
 clear C x
 cases hc:qrg i i with
 | false =>
  rw[hc,if_pos rfl] at m;rw[qg m,if_neg (by decide)] at o;have R:=qj (((qg HN).trans M).mono (T:=(· = g)) (fun _ _ h=>h.elim));have H2:=qj ((qg O).new M);clear q2 M q;go_wp2_with fail;go_ret;rw[qg o,qg m];exact⟨rfl,qg H2,qg R⟩
 | true =>
  rw[hc,if_neg (by decide)] at m;have hp:=qhc i w2 ((qg HD).new M);go_upto_region 3 with fail;have N2:=qj M;clear q2 M;go_wp2_with fail;refine hp.mono ?_;rintro e w3 ⟨rfl,q3⟩;have N:qq w1 w3:=(qg N2).trans (q3.upd _);have t:=q3.cell q;have a6:=qwr g S c lv nv av (qbj i) told ht hb i A I w3 ((qg O).new N) a8 (by omega) ((qg HA).new N) t ((qg HT).new N) ((qg HD).new N);have N3:=qj N;clear hp N q3 q hc;have b0:(q0j told i (c.shelf.take (qbj i))).told.length=32:=by
   unfold q0j;cases e:ql7 told i (c.shelf.take (qbj i)) with
   | none=>exact KeptV.zero_len
   | some p =>
    unfold ql7 at e;exact(qg O).ok.shelf.2 p (List.mem_of_mem_take (List.mem_of_find?_eq_some e))
  generalize q0j told i (c.shelf.take (qbj i))=K at *
  generalize ql7 told i (c.shelf.take (qbj i))=L at *
  generalize qbj i=P at *
  go_upto_region 4 with fail;go_wp2_with fail;refine a6.mono ?_;rintro e E ⟨rfl,n4⟩;have y:=n4.cell t (fun h=>h);have ha:=qjg E KeptV.zero KeptV.zero_len;have a7:=ha.stOk b0;have v:qq E ((E.alloc (.cells KeptV.zero.cells.toArray 120)).setCells E.heap.size 0 K.cells):=(((Upd.refl (fun _=>False) E).alloc _)).then (zy _) (fun i hi e=>by omega);have n5:=((qg N3).trans n4).trans v;have z:=v.cell y (fun h=>h);have J:=qj n5;clear a6 n4 ha v n5 t y;go_upto_region 5 with fail;generalize (E.alloc (.cells KeptV.zero.cells.toArray 120)).setCells E.heap.size 0 K.cells=w5 at z J ⊢;clear a7;generalize E.heap.size=k5;cases hL:L.isSome with
  | true =>
   rw[hL,if_pos rfl] at m;rw[qg m,if_neg (by decide)] at o;have R:=qj (((qg HN).trans (qg J)).mono (T:=(· = g)) (fun _ _ h=>h.elim));have H5:=qj ((qg O).new (qg J));clear z;go_wp2_with fail;go_ret;rw[qg o,qg m];exact⟨rfl,qg H5,qg R⟩
  | false =>
   rw[hL,if_neg (by decide)] at m;rw[qg m,if_pos rfl] at o;go_upto_region 7 with fail;have nd:qq w5 w5.drew:=(Upd.refl _ _).drew;have Y:=((qg O).new (qg J)).new nd;obtain⟨p,hp⟩:∃p,c.shelf[P]? = some p:=⟨_,List.getElem?_eq_getElem (by omega)⟩;obtain⟨a7,D⟩:=Y.putKept hp (k:=⟨true,i,told⟩) ht;have b3:=fun W=>q9k true i told ht W
   have rA:=((qg HA).new (qg J)).row;have HP:=qj D;have u6:Upd (· = g) w5.drew (w5.drew.setCells g (48+P*34) (KeptV.cells ⟨true,i,told⟩)):=(Upd.refl _ _).setCells _ _;have R:=qj (((((qg HN).trans (qg J)).trans nd).mono (T:=(· = g)) (fun _ _ h=>h.elim)).trans u6);have b2:(P:Int)≤16:=by omega
   clear D Y hp nd u6;go_wp2_with ((with_reducible first|rfl|refine' ut ?_ ?_;rotate_left|refine' uu ?_)<;>intros);go_ret;rw[qg o,qg m];exact⟨rfl,qg HP,qg R⟩
end
section
open Go.RowKit
structure Tb(w:World):Prop where
 glob:Glob w
 spans:Spans w
 tabs:Tabs w
 deb:Deb w
structure Apart(S:Nat→Prop):Prop where
 a:¬S 0
 b:¬S 2
 c:¬S 4
 d:¬S 1
 e:¬S 6
theorem Tb.upd{S:Nat→Prop}{w w':World}(h:Tb w)(u:Upd S w w')(a:Apart S):Tb w':=⟨h.glob.upd u a.a,h.spans.upd u a.b,h.tabs.upd u a.c a.d,h.deb.upd u a.e⟩
theorem Tb.new{w w':World}(h:Tb w)(u:qq w w'):Tb w':=⟨h.glob.new u,h.spans.new u,h.tabs.new u,h.deb.new u⟩
theorem Tb.lt{w:World}(h:Tb w):0<w.heap.size∧2<w.heap.size∧4<w.heap.size∧1<w.heap.size∧6<w.heap.size :=
 ⟨World.block_lt_of_cell? w _ (h.glob.events 0 (by decide)),World.block_lt_of_cell? w _ (h.spans.spans 0 (by decide)),h.tabs.lt.1,h.tabs.lt.2,World.block_lt_of_cell? w _ (h.deb.tab 0 (by decide))⟩
theorem Apart.fr{S:Nat→Prop}{w:World}(h:Apart S)(t:Tb w)(w':World):Apart (Fr S w w'):=by
 obtain⟨a,b,c,d,e⟩:=t.lt;refine⟨?_,?_,?_,?_,?_⟩
 ·rintro (k | k)
  ·exact h.a k
  ·omega
 ·rintro (k | k)
  ·exact h.b k
  ·omega
 ·rintro (k | k)
  ·exact h.c k
  ·omega
 ·rintro (k | k)
  ·exact h.d k
  ·omega
 ·rintro (k | k)
  ·exact h.e k
  ·omega
theorem Apart.mono{S T:Nat→Prop}(h:Apart S)(st:∀k,T k→S k):Apart T:=⟨fun k=>h.a (st _ k),fun k=>h.b (st _ k),fun k=>h.c (st _ k),fun k=>h.d (st _ k),fun k=>h.e (st _ k)⟩
structure Tc(w:World):Prop where
 glob:Glob w
 spans:Spans w
 tabs:Tabs w
structure ApC(S:Nat→Prop):Prop where
 a:¬S 0
 b:¬S 2
 c:¬S 4
 d:¬S 1
theorem Tb.c{w:World}(h:Tb w):Tc w:=⟨h.glob,h.spans,h.tabs⟩
theorem Apart.cc{S:Nat→Prop}(h:Apart S):ApC S:=⟨h.a,h.b,h.c,h.d⟩
theorem Tc.upd{S:Nat→Prop}{w w':World}(h:Tc w)(u:Upd S w w')(a:ApC S):Tc w':=⟨h.glob.upd u a.a,h.spans.upd u a.b,h.tabs.upd u a.c a.d⟩
theorem Tc.new{w w':World}(h:Tc w)(u:qq w w'):Tc w':=⟨h.glob.new u,h.spans.new u,h.tabs.new u⟩
theorem Tc.lt{w:World}(h:Tc w):0<w.heap.size∧2<w.heap.size∧4<w.heap.size∧1<w.heap.size :=
 ⟨World.block_lt_of_cell? w _ (h.glob.events 0 (by decide)),World.block_lt_of_cell? w _ (h.spans.spans 0 (by decide)),h.tabs.lt.1,h.tabs.lt.2⟩
theorem ApC.mono{S T:Nat→Prop}(h:ApC S)(st:∀k,T k→S k):ApC T:=⟨fun k=>h.a (st _ k),fun k=>h.b (st _ k),fun k=>h.c (st _ k),fun k=>h.d (st _ k)⟩
structure ApD(S:Nat→Prop):Prop where
 c:¬S 4
 d:¬S 1
theorem q2e{S:Nat→Prop}{w0:World}(t:Tabs w0)(ge:∀k,S k→w0.heap.size≤k):ApD S:=by
 obtain⟨c,d⟩:=t.lt;exact⟨fun h=>by have:=ge _ h;omega,fun h=>by have:=ge _ h;omega⟩
theorem Fr.comp{S:Nat→Prop}{w1 i m:World}(h:w1.heap.size≤i.heap.size)(o:i.heap.size≤m.heap.size):∀k,Fr (Fr S w1 i) i m k→Fr S w1 m k:=by
 rintro k ((h | h) | h)
 ·exact .inl h
 ·exact .inr ⟨h.1,by omega⟩
 ·exact .inr ⟨by omega,h.2⟩
theorem Upd.fr{S:Nat→Prop}{w1 m o:World}(u:Upd S w1 m)(v:Upd (Fr S w1 m) m o):Upd S w1 o:=u.then v fun i q h=>by
 rcases h with h | h
 ·exact h
 ·omega
theorem ChS.comp{S:Nat→Prop}{w1 o m:World}{g:Nat}{c:Ch}(h:ChS m g (Fr (Fr S w1 o) o m) c)(q:w1.heap.size≤o.heap.size)(t:o.heap.size≤m.heap.size):ChS m g (Fr S w1 m) c:=by
 obtain⟨a,b,d,h⟩:=h;refine⟨a,b,d,h.wider (Fr.comp q t) (fun k i=> ?_)⟩;have:=h.lt g h.inG;rcases i with i | i
 ·exact h.lt k (.inl (.inl i))
 ·exact i.2
theorem ChS.frW{S:Nat→Prop}{w1 i:World}{g:Nat}{c:Ch}(h:ChS i g S c):ChS i g (Fr S w1 i) c:=by
 obtain⟨a,b,d,h⟩:=h;exact h.fr w1
theorem ChS.later{S:Nat→Prop}{w1 o m:World}{g:Nat}{c:Ch}(h:ChS m g (Fr S o m) c)(q:w1.heap.size≤o.heap.size):ChS m g (Fr S w1 m) c:=by
 obtain⟨a,b,d,h⟩:=h;refine⟨a,b,d,h.wider (fun k i=> ?_) (fun k i=> ?_)⟩
 ·rcases i with i | i
  ·exact .inl i
  ·exact .inr ⟨by omega,i.2⟩
 ·rcases i with i | i
  ·exact h.lt k (.inl i)
  ·exact i.2
theorem ChS.grow{S:Nat→Prop}{w0 w1 m:World}{g:Nat}{c:Ch}(h:ChS m g (Fr S w0 w1) c)(o:w1.heap.size≤m.heap.size):ChS m g (Fr S w0 m) c:=by
 obtain⟨a,b,d,h⟩:=h;refine⟨a,b,d,h.wider (fun k i=> ?_) (fun k i=> ?_)⟩
 ·rcases i with i | i
  ·exact .inl i
  ·exact .inr ⟨i.1,by omega⟩
 ·rcases i with i | i
  ·exact h.lt k (.inl i)
  ·exact i.2
def qe7(n:Nat)(s:ByteArray):ByteArray:=zr n 8++zr s.size 2++s
def qsa(n:Nat)(s:ByteArray):ByteArray:=qe7 n s++qxk (qe7 n s)
theorem qli(n:Nat)(s:ByteArray):(qe7 n s).size=10+s.size:=by
 unfold qe7;rw[ByteArray.size_append,ByteArray.size_append,qaq,qaq]
theorem qkt(n:Nat)(s:ByteArray):(qsa n s).size=14+s.size:=by
 unfold qsa;rw[ByteArray.size_append,qli,qqo];omega
theorem q4b(n:Nat)(s:ByteArray)(w:World)(hn:n<2 ^ 64)(hs:s.size≤1024)(R:Tabs w) :
  Calls Tryz.prog 148 #[.int .u64 n,.string s] w (qar (.tuple #[.string (qsa n s),.int .i64 0]) w):=by
 have C:IntKind.u64.wrap (s.size:Int)=s.size:=qdl (by omega) (by omega)
 have o:=qli n s
 have m:=qqo (qe7 n s)
 have e0:(⟨#[]⟩:ByteArray)++zr n 8=zr n 8:=ByteArray.empty_append
 have E:=qj (qaq n 8)
 have M:(zr n 8++zr s.size 2).size=10:=by rw[ByteArray.size_append,qaq,qaq]
 have X:=qj M
 have H:=qj (show zr n 8++zr s.size 2++s=qe7 n s from rfl)
 have I:=qj (show qe7 n s++qxk (qe7 n s)=qsa n s from rfl)
 have q:=qj (And.intro o m)
 clear M o m
 go_enter Tryz.func148,Tryz.ntmps148
 go_upto_region 2 with fail
 have t:Wr (w.alloc (.cells #[.string ⟨#[]⟩] 174)) w.heap.size ⟨#[]⟩:=ql _ _
 have D:qq w (w.alloc (.cells #[.string ⟨#[]⟩] 174)):=(Upd.refl _ _).alloc _
 generalize w.alloc (.cells #[.string ⟨#[]⟩] 174)=w1 at t D ⊢
 have J:=qj D
 generalize P:w.heap.size=B at t ⊢
 have v:=qj P
 clear D P
 have i:=qda B n 8 ⟨#[]⟩ w1 t (by decide) (by decide) hn (by show (0:Nat)≤_;omega)
 rw[e0] at i
 clear e0 t
 go_wp2_with fail
 refine i.mono ?_
 rintro e w2 ⟨rfl,V,N⟩
 have K:=qj ((qg J).then V (fun k Z e=>by have:=qg v;omega))
 have i:=qda B s.size 2 (zr n 8) w2 N (by decide) (by decide) (by show s.size<65536;omega) (by have:=qg E;omega)
 clear V N J
 go_wp2_with fail
 refine i.mono ?_
 rintro e w3 ⟨rfl,W,O⟩
 have x:=qj ((qg K).then W (fun k Z e=>by have:=qg v;omega))
 clear i W K C
 go_wp2_with fail
 refine(qe3 _ _ _ O).mono ?_
 rintro e w4 ⟨rfl,rfl⟩
 have T:=q4c (qe7 n s) w3 (by have:=(qg q).1;omega) (R.new (qg x))
 have y:(qe7 n s).size≤1034:=by have:=(qg q).1;omega
 have z:=(qg q).2
 have a1:=qg X
 clear O R
 generalize zr n 8++zr s.size 2=a at *
 go_wp2_with fail
 rw[qg H]
 refine T.mono ?_
 rintro e w5 ⟨rfl,U⟩
 have Y:=qj ((qg x).trans U)
 clear T U x v E
 go_wp2_with fail
 rw[qg I]
 clear I q y z H
 generalize qe7 n s=hv
 generalize qsa n s=pv
 generalize qxk hv=sv
 go_ret2
 exact⟨rfl,qg Y⟩
def Jo.app(j:Jo)(s:ByteArray):Jo:= {j with bs:=j.bs++qsa j.many.toNat s,many:=j.many+1}
theorem q5m{w:World}{g:Nat}{S:Nat→Prop}{j:Jo}(h:JoS w g S j)(n:Int):JoS (w.setCell ⟨g,2,none⟩ (.int .i64 n)) g S {j with many:=n} := by
 obtain⟨p,buf,h⟩:=h;have u:Upd (· = g) w (w.setCell ⟨g,2,none⟩ (.int .i64 n)):=(Upd.refl _ _).set1 _ _;refine⟨p,buf,zq h.at_ 2 _,h.addr,zc h.row u ?_,h.inG,h.inB,fun k i=>Nat.lt_of_lt_of_le (h.lt k i) u.size⟩;intro k i e;obtain⟨m,o⟩:=zv h.row k i;exact zx o h.at_ (by decide) e
theorem JoS.comp{S:Nat→Prop}{w1 m i:World}{g:Nat}{c:Jo}(h:JoS i g (Fr (Fr S w1 m) m i) c)(q:w1.heap.size≤m.heap.size)(t:m.heap.size≤i.heap.size):JoS i g (Fr S w1 i) c:=by
 obtain⟨p,b,h⟩:=h;refine⟨p,b,h.wider (Fr.comp q t) ?_⟩;have v:=h.lt;rintro k (o | o)
 ·exact v k (.inl (.inl o))
 ·exact o.2
theorem JoS.wider{w:World}{g:Nat}{S T:Nat→Prop}{j:Jo}(h:JoS w g S j)(m:∀k,S k→T k)(i:∀k,T k→k<w.heap.size):JoS w g T j:=by
 obtain⟨p,b,h⟩:=h;exact⟨p,b,h.wider m i⟩
def zaq(g:Nat)(S:Nat→Prop)(j:Jo)(s:ByteArray)(w0:World)(i:Nat)(w:World):Prop:=(i=0→w=w0)∧(i=1→JoS w g (Fr S w0 w) (j.app s)∧Upd S w0 w)
theorem qlh(g b:Nat)(S:Nat→Prop)(j:Jo)(s:ByteArray)(w:World)(h:JoS w g S j)(hf:j.fused=false)(ho:j.off=false)(hs:s.size≤1024)(M:0≤j.many∧j.many<1099511627776)(P:j.bs.size≤1099511627776)(Z:Tabs w)(hb:w.cell? ⟨b,0,none⟩=some (.string s))(a1:¬S b) :
  Calls Tryz.prog 113 #[.pointer (some ⟨g,0,none⟩),.slice (some ⟨b,0,none⟩) 1 1] w fun e w'=>e = .returned (.int .i64 0)∧JoS w' g (Fr S w w') (j.app s)∧Upd S w w':=by
 obtain⟨p,buf,D⟩:=h
 have X:w.cell? ⟨g,5,none⟩=some (.bool false):=ho▸qk D.at_ 5
 have o:w.cell? ⟨g,2,none⟩=some (.int .i64 j.many):=qk D.at_ 2
 have Y:=D.inG
 have H:=qj (show JoS w g S j from⟨p,buf,D⟩)
 obtain⟨m,t⟩:=Int.eq_ofNat_of_zero_le M.1
 have a7:IntKind.u64.wrap (m:Int)=(m:Int):=qdl (by omega) (by omega)
 rw[t] at o
 have q:=fun w' (n':qq w w')=>q4b m s w' (by omega) hs (Z.new n')
 have a6:=qkt m s
 have a2:m<1099511627776:=by omega
 have C:=qj t
 have HM:=qj M
 clear D t M
 go_enter Tryz.func113,Tryz.ntmps113
 go_wp2_with fail
 go_loopw [13] (fun x wr=>∃i:Nat,x = .int .i64 (i:Int)∧i≤1∧wr=w) (fun x _=>1-(intOf x).toNat)
 case atStart=>exact⟨0,rfl,by omega,rfl⟩
 case round =>
  obtain⟨i,rfl,hi,rfl⟩:=hrel;rcases (by omega:i=0∨i=1) with rfl | rfl
  ·go_wp2_with fail;go_roundw
   case rel=>exact⟨1,rfl,by omega,by trivial⟩
   case measure=>simp[intOf]
  ·rw[show ((1:Nat):Int)=1 from rfl];go_wp2_with fail
   go_loopw [27] (fun x N=>∃i:Nat,x = .int .i64 (i:Int)∧i≤1∧Hid (zaq g S j s wr i N)) (fun x _=>1-(intOf x).toNat)
   case atStart=>exact⟨0,rfl,by omega,qj ⟨fun _=>rfl,fun e=>by cases e⟩⟩
   case round =>
    obtain⟨i,rfl,hi,hrel⟩:=hrel;rcases (by omega:i=0∨i=1) with rfl | rfl
    ·obtain rfl:=(qg hrel).1 rfl;clear hrel;rw[show ((0:Nat):Int)=0 from rfl];go_wp2_with fail;refine(q _ (Upd.refl _ _)).mono ?_;rintro e w1 ⟨rfl,z⟩;have T:=qwf g S j (qsa m s) w1 ((qg H).new z) hf (by omega);have V:=qj z;clear z q hb X o;go_wp2_with fail;refine T.mono ?_;rintro e I ⟨rfl,O,E⟩;have R:JoS (I.setCell ⟨g,2,none⟩ (.int .i64 ((m:Int)+1))) g (Fr S w1 I) (j.app s):=by
      have:=q5m O ((m:Int)+1);unfold Jo.app;rw[qg C,Int.toNat_natCast];exact this
     have v:Upd (· = g) I (I.setCell ⟨g,2,none⟩ (.int .i64 ((m:Int)+1))):=(Upd.refl _ _).set1 _ _;have J:=qj v;have K:=qj v.size;obtain⟨p2,b2,o⟩:=O;have d2:I.cell? ⟨g,2,none⟩=some (.int .i64 (m:Int)):=by have:=qg C;rw[←this];exact qk o.at_ 2
     have f2:=qo o.at_ 2;have U:=qj R;have W:=qj E;clear T R o E v;go_wp2_with fail;go_roundw
     case rel =>
      have z:=qg V;have E:=qg W;have z3:=qg K;have z1:=z.size;have z2:=E.size;have hz:=(qg H).lt;refine⟨1,rfl,by omega,qj ⟨(fun e=>by cases e),fun _=>⟨(qg U).wider ?_ ?_,?_⟩⟩⟩
      ·rintro k (y | y)
       ·exact .inl y
       ·exact .inr ⟨by omega,by omega⟩
      ·rintro k (y | y)
       ·have:=hz k y;omega
       ·exact y.2
      ·exact((z.mono (fun _ _ h=>h.elim)).trans E).trans ((qg J).mono (fun k _ e=>by rw[e];exact Y))
     case measure=>simp[intOf]
    ·go_wp2_with fail;go_ret;exact⟨rfl,(qg hrel).2 rfl⟩
structure LinkV where
 sp:Nat
 en:Nat
 lo:Nat
 out:ByteArray
 events:Value
 ticks:Int
 dead:Bool
 broken:Bool
 waits:Bool
def qr8(g:Nat):Value:= .pointer (some ⟨g,0,none⟩)
def LinkV.cells(l:LinkV):List Value:=[qr8 l.sp,qr8 l.en,qr8 l.lo,.string l.out,l.events,.int .i64 l.ticks,.bool l.dead,.bool l.broken,.bool l.waits]
def LkR(w:World)(g:Nat)(l:LinkV):Prop:=w.heap[g]? = some (.cells l.cells.toArray 107 (0,0))
def SpR(w:World)(g:Nat)(s:ByteArray):Prop:=w.heap[g]? = some (.cells #[.string s] 169 (0,0))
def LinkV.new(sp en lo:Nat):LinkV:=⟨sp,en,lo,⟨#[]⟩,qcb,0,false,false,false⟩
structure NewL(w:World)(B g:Nat)(s:SetupV)(l:LinkV):Prop where
 isNew:l = .new l.sp l.en l.lo
 lk:LkR w g l
 sp:SpR w l.sp ⟨#[]⟩
 ch:ChR w l.en (.new s)
 jo:JoR w l.lo .new
 ge:B≤g∧B≤l.sp∧B≤l.en∧B≤l.lo
 ne:l.en<l.lo∧l.lo<l.sp∧l.sp<g
attribute [local go_sem ↓ high] qed
attribute [local go_sem] qji
theorem q4v(s:SetupV)(O:s.Ok)(w:World):Calls Tryz.prog 43 #[.agg s.cells.toArray] w fun e w' =>
  (s.may∧∃g l,e = .returned (.pointer (some ⟨g,0,none⟩))∧NewL w' w.heap.size g s l∧qq w w')∨(¬s.may∧e = .returned (.pointer none)∧qq w w'):=by
 go_enter Tryz.func43,Tryz.ntmps43
 go_upto_region 1 with fail
 have E:qgs (w.alloc (.cells s.cells.toArray 78)) w.heap.size s:=ql _ _
 have n0:qq w (w.alloc (.cells s.cells.toArray 78)):=(Upd.refl _ _).alloc _
 generalize w.alloc (.cells s.cells.toArray 78)=w1 at E n0 ⊢
 have q:=E.row O.seed
 go_wp2_with fail
 refine(q4u s O _).mono ?_
 rintro e Y (⟨x,g,rfl,N,v,t⟩ | ⟨x,rfl,t⟩)
 ·replace t:=n0.trans t;have K:w.heap.size≤g:=Nat.le_trans n0.size N;clear n0 E q N;have I:=qj x;clear x;go_wp2_with fail;refine(qur _).mono ?_;rintro e i ⟨j,rfl,X,m,y⟩;have T:=v.lt;replace v:=v.new y;replace y:=t.trans y;have M:=zi m;have U:=t.size;clear t;go_wp2_with fail;go_ret;have x:=qg I;have R:=y.alloc (.cells #[.string ⟨#[]⟩] 169);have D:SpR _ i.heap.size ⟨#[]⟩:=ql i (.cells #[.string ⟨#[]⟩] 169);have z:qq i (i.alloc (.cells #[.string ⟨#[]⟩] 169)):=(Upd.refl _ _).alloc _;have P:(i.alloc (.cells #[.string ⟨#[]⟩] 169)).heap.size=i.heap.size+1:=World.size_alloc _ _;replace v:=v.new z;replace m:JoR _ j .new:=z.old m (fun h=>h);have V:w.heap.size≤j:=by omega
  generalize i.alloc (.cells #[.string ⟨#[]⟩] 169)=H at R D z P v m ⊢;have C:LkR _ H.heap.size (.new i.heap.size g j):=ql H (.cells (LinkV.new i.heap.size g j).cells.toArray 107);have o:qq H (H.alloc (.cells (LinkV.new i.heap.size g j).cells.toArray 107)):=(Upd.refl _ _).alloc _;have W:=R.trans o;rw[P] at C;have J:=y.size;exact .inl ⟨x,i.heap.size+1,.new i.heap.size g j,rfl,⟨rfl,C,o.old D (fun h=>h),v.new o,o.old m (fun h=>h),⟨by omega,J,K,V⟩,⟨by show g<j;omega,M,by show i.heap.size<_;omega⟩⟩,W⟩
 ·have y:=n0.trans t;clear n0 E q t;have I:=qj x;clear x;go_wp2_with fail;go_ret;exact .inr ⟨qg I,rfl,y⟩
end
end Go.Proofs.YtfmkdoachjgjbaaGreatDoor
