/-
  wire.fields (printed by tools/mk_fld.py).
-/
import Derived.Test.YthnohmjbbeahmaaGreatDoorMbg
set_option linter.unusedVariables false
set_option linter.unusedSimpArgs false
namespace Go.Proofs.YthnohmjbbeahmaaGreatDoor
open Go.RowKit
def fieldsOf(kind:Int):Option (List Fld) :=
 if kind=1 then some [.ch,.amount] else if kind=2 then some [.ch] else if kind=3 then some [.ch,.id,.amount,.hash,.expiry] else if kind=4 then some [.ch,.id,.hash] else if kind=5 then some [.ch,.id,.number]
 else if kind=6 then some [.ch,.number,.hash] else if kind=7 then some [.ch,.number,.hash] else if kind=8 then some [.ch] else if kind=9 then some [.ch,.number,.id] else none
theorem qgn{w:World}{a b:Nat}{e:TypeId}{size:Nat}{v:Value}{n:Nat}{xs:List Value}(h:w.ownsRow b e size v n xs)(ab:a≤b):w.ownsRow a e size v n xs:=by
 refine⟨h.1,?_⟩;rcases h.2 with h | ⟨g,cap,i,l,m,r⟩
 ·exact .inl h
 ·exact .inr ⟨g,cap,i,l,by omega,r⟩
def qgi(xs:List Fld)(w:World)(e:Ending)(w':World):Prop:=∃v,e = .returned (.tuple #[v,.bool true])∧qq w w'∧FldsO w.heap.size w' v xs
set_option maxRecDepth 100000 in
set_option maxHeartbeats 1000000 in
theorem za9(w:World):Calls Tryz.prog 79 #[.int .i64 1] w (qgi [.ch,.amount] w):=by
 go_enter Tryz.func79,Tryz.ntmps79;go_wp2_with fail;refine(qak 8 103 w).mono ?_;rintro e w1 ⟨_,rfl,q,p1,q1,rfl,W,a4,g,l⟩;go_wp2_with fail;refine(qak 8 104 w1).mono ?_;rintro e w2 ⟨_,rfl,I,J,K,rfl,X,a5,m,o⟩;have a8:=q.size;replace g:=I.cell g (fun h=>h);replace l:=I.cell l (fun h=>h);replace q:=q.trans I;clear I;go_wp2_with fail;refine(qax 4 106 w2).mono ?_;rintro e w3 ⟨_,rfl,E,p3,q3,rfl,Y,a6,y,z⟩;have a9:=q.size;replace g:=E.cell g (fun h=>h);replace l:=E.cell l (fun h=>h);replace m:=E.cell m (fun h=>h);replace o:=E.cell o (fun h=>h);replace q:=q.trans E;clear E;go_wp2_with fail;refine(qax 2 107 w3).mono ?_;rintro e L ⟨_,rfl,C,p4,q4,rfl,Z,a7,F,H⟩;have b3:=q.size;replace g:=C.cell g (fun h=>h);replace l:=C.cell l (fun h=>h);replace m:=C.cell m (fun h=>h);replace o:=C.cell o (fun h=>h);replace y:=C.cell y (fun h=>h);replace z:=C.cell z (fun h=>h);replace q:=q.trans C;have b4:=q.size;clear C;go_wp2_with fail;have D:qq L (L.alloc (.cells #[(.func (.func 119) #[] #[.pointer (some ⟨J,0,none⟩),.pointer (some ⟨K,0,none⟩)])] 174)):=(Upd.refl _ _).alloc _;refine(qh6 L.heap.size [(.func (.func 119) #[] #[.pointer (some ⟨J,0,none⟩),.pointer (some ⟨K,0,none⟩)])] _ (qi L (.cells #[(.func (.func 119) #[] #[.pointer (some ⟨J,0,none⟩),.pointer (some ⟨K,0,none⟩)])] 174)) ?one (by show 1≤100;decide)).mono ?_
 case one=>intro v hv;simp only[List.mem_cons,List.not_mem_nil,or_false] at hv;rcases hv with rfl<;>rfl
 rintro e w5 ⟨v,c,rfl,R,O,N⟩;have b5:=D.size;have t:=D.trans R;have V:=qb (qgn O (show w.heap.size≤_ by omega));have T:=qb (N.later (show w.heap.size≤_ by omega));replace g:=t.cell g (fun h=>h);replace l:=t.cell l (fun h=>h);replace m:=t.cell m (fun h=>h);replace o:=t.cell o (fun h=>h);replace y:=t.cell y (fun h=>h);replace z:=t.cell z (fun h=>h);replace F:=t.cell F (fun h=>h);replace H:=t.cell H (fun h=>h);have U:=qb (q.trans t);clear q R t D O N;go_wp2_with fail;go_ret2;refine⟨v,rfl,qa U,⟨_,qa V,rfl,?_⟩⟩;intro i x u M P;rcases i with _ | _ | _
 ·obtain rfl:_=x:=Option.some.inj M;obtain rfl:_=u:=Option.some.inj P;exact qa T
 ·obtain rfl:_=x:=Option.some.inj M;obtain rfl:_=u:=Option.some.inj P;exact⟨J,K,rfl,by omega,by omega,m,o⟩
 ·cases M
set_option maxRecDepth 100000 in
set_option maxHeartbeats 1000000 in
theorem zba(w:World):Calls Tryz.prog 79 #[.int .i64 2] w (qgi [.ch] w):=by
 go_enter Tryz.func79,Tryz.ntmps79;go_wp2_with fail;refine(qak 8 103 w).mono ?_;rintro e w1 ⟨_,rfl,q,p1,q1,rfl,T,X,g,l⟩;go_wp2_with fail;refine(qak 8 104 w1).mono ?_;rintro e w2 ⟨_,rfl,I,p2,q2,rfl,U,Y,m,o⟩;have a5:=q.size;replace g:=I.cell g (fun h=>h);replace l:=I.cell l (fun h=>h);replace q:=q.trans I;clear I;go_wp2_with fail;refine(qax 4 106 w2).mono ?_;rintro e w3 ⟨_,rfl,E,p3,q3,rfl,V,Z,y,z⟩;have a6:=q.size;replace g:=E.cell g (fun h=>h);replace l:=E.cell l (fun h=>h);replace m:=E.cell m (fun h=>h);replace o:=E.cell o (fun h=>h);replace q:=q.trans E;clear E;go_wp2_with fail;refine(qax 2 107 w3).mono ?_;rintro e J ⟨_,rfl,C,p4,q4,rfl,W,a4,F,H⟩;have a7:=q.size;replace g:=C.cell g (fun h=>h);replace l:=C.cell l (fun h=>h);replace m:=C.cell m (fun h=>h);replace o:=C.cell o (fun h=>h);replace y:=C.cell y (fun h=>h);replace z:=C.cell z (fun h=>h);replace q:=q.trans C;have a8:=q.size;clear C;go_wp2_with fail;have D:qq J J:=Upd.refl _ _;refine(qvl J).mono ?_;rintro e w5 ⟨v,c,rfl,N,L,K⟩;have a9:=D.size;have t:=D.trans N;have R:=qb (qgn L (show w.heap.size≤_ by omega));have O:=qb (K.later (show w.heap.size≤_ by omega));replace g:=t.cell g (fun h=>h);replace l:=t.cell l (fun h=>h);replace m:=t.cell m (fun h=>h);replace o:=t.cell o (fun h=>h);replace y:=t.cell y (fun h=>h);replace z:=t.cell z (fun h=>h);replace F:=t.cell F (fun h=>h);replace H:=t.cell H (fun h=>h);have P:=qb (q.trans t);clear q N t D L K;go_wp2_with fail;go_ret2;refine⟨v,rfl,qa P,⟨_,qa R,rfl,?_⟩⟩
 intro i x u M hu;rcases i with _ | _
 ·obtain rfl:_=x:=Option.some.inj M;obtain rfl:_=u:=Option.some.inj hu;exact qa O
 ·cases M
set_option maxRecDepth 100000 in
set_option maxHeartbeats 1000000 in
theorem zbb(w:World):Calls Tryz.prog 79 #[.int .i64 3] w (qgi [.ch,.id,.amount,.hash,.expiry] w):=by
 go_enter Tryz.func79,Tryz.ntmps79;go_wp2_with fail;refine(qak 8 103 w).mono ?_;rintro e w1 ⟨_,rfl,q,L,O,rfl,a4,a8,g,l⟩;go_wp2_with fail;refine(qak 8 104 w1).mono ?_;rintro e w2 ⟨_,rfl,K,M,P,rfl,a5,a9,m,o⟩;have b5:=q.size;replace g:=K.cell g (fun h=>h);replace l:=K.cell l (fun h=>h);replace q:=q.trans K;clear K;go_wp2_with fail;refine(qax 4 106 w2).mono ?_;rintro e w3 ⟨_,rfl,F,N,R,rfl,a6,b3,t,y⟩;have b6:=q.size;replace g:=F.cell g (fun h=>h);replace l:=F.cell l (fun h=>h);replace m:=F.cell m (fun h=>h);replace o:=F.cell o (fun h=>h);replace q:=q.trans F;clear F;go_wp2_with fail;refine(qax 2 107 w3).mono ?_;rintro e T ⟨_,rfl,C,p4,q4,rfl,a7,b4,H,I⟩;have b7:=q.size;replace g:=C.cell g (fun h=>h);replace l:=C.cell l (fun h=>h);replace m:=C.cell m (fun h=>h);replace o:=C.cell o (fun h=>h);replace t:=C.cell t (fun h=>h);replace y:=C.cell y (fun h=>h);replace q:=q.trans C;have b8:=q.size;clear C;go_wp2_with fail;have D:qq T (T.alloc (.cells #[(.func (.func 119) #[] #[.pointer (some ⟨L,0,none⟩),.pointer (some ⟨O,0,none⟩)]),(.func (.func 119) #[] #[.pointer (some ⟨M,0,none⟩),.pointer (some ⟨P,0,none⟩)]),(.func (.func 109) #[] #[]),(.func (.func 122) #[] #[.pointer (some ⟨N,0,none⟩),.pointer (some ⟨R,0,none⟩)])] 174)):=(Upd.refl _ _).alloc _;refine(qh6 T.heap.size [(.func (.func 119) #[] #[.pointer (some ⟨L,0,none⟩),.pointer (some ⟨O,0,none⟩)]),(.func (.func 119) #[] #[.pointer (some ⟨M,0,none⟩),.pointer (some ⟨P,0,none⟩)]),(.func (.func 109) #[] #[]),(.func (.func 122) #[] #[.pointer (some ⟨N,0,none⟩),.pointer (some ⟨R,0,none⟩)])] _ (qi T (.cells #[(.func (.func 119) #[] #[.pointer (some ⟨L,0,none⟩),.pointer (some ⟨O,0,none⟩)]),(.func (.func 119) #[] #[.pointer (some ⟨M,0,none⟩),.pointer (some ⟨P,0,none⟩)]),(.func (.func 109) #[] #[]),(.func (.func 122) #[] #[.pointer (some ⟨N,0,none⟩),.pointer (some ⟨R,0,none⟩)])] 174)) ?one (by show 4≤100;decide)).mono ?_
 case one=>intro v hv;simp only[List.mem_cons,List.not_mem_nil,or_false] at hv;rcases hv with rfl | rfl | rfl | rfl<;>rfl
 rintro e w5 ⟨v,c,rfl,W,V,U⟩;have b9:=D.size;have z:=D.trans W;have Z:=qb (qgn V (show w.heap.size≤_ by omega));have X:=qb (U.later (show w.heap.size≤_ by omega));replace g:=z.cell g (fun h=>h);replace l:=z.cell l (fun h=>h);replace m:=z.cell m (fun h=>h);replace o:=z.cell o (fun h=>h);replace t:=z.cell t (fun h=>h);replace y:=z.cell y (fun h=>h);replace H:=z.cell H (fun h=>h);replace I:=z.cell I (fun h=>h);have Y:=qb (q.trans z);clear q W z D V U;go_wp2_with fail;go_ret2;refine⟨v,rfl,qa Y,⟨_,qa Z,rfl,?_⟩⟩;intro i x u E J;rcases i with _ | _ | _ | _ | _ | _
 ·obtain rfl:_=x:=Option.some.inj E;obtain rfl:_=u:=Option.some.inj J;exact qa X
 ·obtain rfl:_=x:=Option.some.inj E;obtain rfl:_=u:=Option.some.inj J;exact⟨L,O,rfl,by omega,by omega,g,l⟩
 ·obtain rfl:_=x:=Option.some.inj E;obtain rfl:_=u:=Option.some.inj J;exact⟨M,P,rfl,by omega,by omega,m,o⟩
 ·obtain rfl:_=x:=Option.some.inj E;obtain rfl:_=u:=Option.some.inj J;exact rfl
 ·obtain rfl:_=x:=Option.some.inj E;obtain rfl:_=u:=Option.some.inj J;exact⟨N,R,rfl,by omega,by omega,t,y⟩
 ·cases E
set_option maxRecDepth 100000 in
set_option maxHeartbeats 1000000 in
theorem zbc(w:World):Calls Tryz.prog 79 #[.int .i64 4] w (qgi [.ch,.id,.hash] w):=by
 go_enter Tryz.func79,Tryz.ntmps79;go_wp2_with fail;refine(qak 8 103 w).mono ?_;rintro e w1 ⟨_,rfl,q,K,L,rfl,W,a4,g,l⟩;go_wp2_with fail;refine(qak 8 104 w1).mono ?_;rintro e w2 ⟨_,rfl,J,p2,q2,rfl,X,a5,m,o⟩;have a8:=q.size;replace g:=J.cell g (fun h=>h);replace l:=J.cell l (fun h=>h);replace q:=q.trans J;clear J;go_wp2_with fail;refine(qax 4 106 w2).mono ?_;rintro e w3 ⟨_,rfl,E,p3,q3,rfl,Y,a6,y,z⟩;have a9:=q.size;replace g:=E.cell g (fun h=>h);replace l:=E.cell l (fun h=>h);replace m:=E.cell m (fun h=>h);replace o:=E.cell o (fun h=>h);replace q:=q.trans E;clear E;go_wp2_with fail;refine(qax 2 107 w3).mono ?_;rintro e M ⟨_,rfl,C,p4,q4,rfl,Z,a7,F,H⟩;have b3:=q.size;replace g:=C.cell g (fun h=>h);replace l:=C.cell l (fun h=>h);replace m:=C.cell m (fun h=>h);replace o:=C.cell o (fun h=>h);replace y:=C.cell y (fun h=>h);replace z:=C.cell z (fun h=>h);replace q:=q.trans C;have b4:=q.size;clear C;go_wp2_with fail;have D:qq M (M.alloc (.cells #[(.func (.func 119) #[] #[.pointer (some ⟨K,0,none⟩),.pointer (some ⟨L,0,none⟩)]),(.func (.func 109) #[] #[])] 174)):=(Upd.refl _ _).alloc _;refine(qh6 M.heap.size [(.func (.func 119) #[] #[.pointer (some ⟨K,0,none⟩),.pointer (some ⟨L,0,none⟩)]),(.func (.func 109) #[] #[])] _ (qi M (.cells #[(.func (.func 119) #[] #[.pointer (some ⟨K,0,none⟩),.pointer (some ⟨L,0,none⟩)]),(.func (.func 109) #[] #[])] 174)) ?one (by show 2≤100;decide)).mono ?_
 case one=>intro v hv;simp only[List.mem_cons,List.not_mem_nil,or_false] at hv;rcases hv with rfl | rfl<;>rfl
 rintro e w5 ⟨v,c,rfl,R,P,O⟩;have b5:=D.size;have t:=D.trans R;have V:=qb (qgn P (show w.heap.size≤_ by omega));have T:=qb (O.later (show w.heap.size≤_ by omega));replace g:=t.cell g (fun h=>h);replace l:=t.cell l (fun h=>h);replace m:=t.cell m (fun h=>h);replace o:=t.cell o (fun h=>h);replace y:=t.cell y (fun h=>h);replace z:=t.cell z (fun h=>h);replace F:=t.cell F (fun h=>h);replace H:=t.cell H (fun h=>h);have U:=qb (q.trans t);clear q R t D P O;go_wp2_with fail;go_ret2;refine⟨v,rfl,qa U,⟨_,qa V,rfl,?_⟩⟩;intro i x u I N;rcases i with _ | _ | _ | _
 ·obtain rfl:_=x:=Option.some.inj I;obtain rfl:_=u:=Option.some.inj N;exact qa T
 ·obtain rfl:_=x:=Option.some.inj I;obtain rfl:_=u:=Option.some.inj N;exact⟨K,L,rfl,by omega,by omega,g,l⟩
 ·obtain rfl:_=x:=Option.some.inj I;obtain rfl:_=u:=Option.some.inj N;exact rfl
 ·cases I
set_option maxRecDepth 100000 in
set_option maxHeartbeats 1000000 in
theorem zbd(w:World):Calls Tryz.prog 79 #[.int .i64 5] w (qgi [.ch,.id,.number] w):=by
 go_enter Tryz.func79,Tryz.ntmps79;go_wp2_with fail;refine(qak 8 103 w).mono ?_;rintro e w1 ⟨_,rfl,q,K,M,rfl,Y,a6,g,l⟩;go_wp2_with fail;refine(qak 8 104 w1).mono ?_;rintro e w2 ⟨_,rfl,J,p2,q2,rfl,Z,a7,m,o⟩;have b3:=q.size;replace g:=J.cell g (fun h=>h);replace l:=J.cell l (fun h=>h);replace q:=q.trans J;clear J;go_wp2_with fail;refine(qax 4 106 w2).mono ?_;rintro e w3 ⟨_,rfl,H,p3,q3,rfl,a4,a8,y,z⟩;have b4:=q.size;replace g:=H.cell g (fun h=>h);replace l:=H.cell l (fun h=>h);replace m:=H.cell m (fun h=>h);replace o:=H.cell o (fun h=>h);replace q:=q.trans H;clear H;go_wp2_with fail;refine(qax 2 107 w3).mono ?_;rintro e O ⟨_,rfl,C,L,N,rfl,a5,a9,D,E⟩;have b5:=q.size;replace g:=C.cell g (fun h=>h);replace l:=C.cell l (fun h=>h);replace m:=C.cell m (fun h=>h);replace o:=C.cell o (fun h=>h);replace y:=C.cell y (fun h=>h);replace z:=C.cell z (fun h=>h);replace q:=q.trans C;have b6:=q.size;clear C;go_wp2_with fail;have F:qq O (O.alloc (.cells #[(.func (.func 119) #[] #[.pointer (some ⟨K,0,none⟩),.pointer (some ⟨M,0,none⟩)]),(.func (.func 122) #[] #[.pointer (some ⟨L,0,none⟩),.pointer (some ⟨N,0,none⟩)])] 174)):=(Upd.refl _ _).alloc _;refine(qh6 O.heap.size [(.func (.func 119) #[] #[.pointer (some ⟨K,0,none⟩),.pointer (some ⟨M,0,none⟩)]),(.func (.func 122) #[] #[.pointer (some ⟨L,0,none⟩),.pointer (some ⟨N,0,none⟩)])] _ (qi O (.cells #[(.func (.func 119) #[] #[.pointer (some ⟨K,0,none⟩),.pointer (some ⟨M,0,none⟩)]),(.func (.func 122) #[] #[.pointer (some ⟨L,0,none⟩),.pointer (some ⟨N,0,none⟩)])] 174)) ?one (by show 2≤100;decide)).mono ?_
 case one=>intro v hv;simp only[List.mem_cons,List.not_mem_nil,or_false] at hv;rcases hv with rfl | rfl<;>rfl
 rintro e w5 ⟨v,c,rfl,U,T,R⟩;have b7:=F.size;have t:=F.trans U;have X:=qb (qgn T (show w.heap.size≤_ by omega));have V:=qb (R.later (show w.heap.size≤_ by omega));replace g:=t.cell g (fun h=>h);replace l:=t.cell l (fun h=>h);replace m:=t.cell m (fun h=>h);replace o:=t.cell o (fun h=>h);replace y:=t.cell y (fun h=>h);replace z:=t.cell z (fun h=>h);replace D:=t.cell D (fun h=>h);replace E:=t.cell E (fun h=>h);have W:=qb (q.trans t);clear q U t F T R;go_wp2_with fail;go_ret2;refine⟨v,rfl,qa W,⟨_,qa X,rfl,?_⟩⟩;intro i x u I P;rcases i with _ | _ | _ | _
 ·obtain rfl:_=x:=Option.some.inj I;obtain rfl:_=u:=Option.some.inj P;exact qa V
 ·obtain rfl:_=x:=Option.some.inj I;obtain rfl:_=u:=Option.some.inj P;exact⟨K,M,rfl,by omega,by omega,g,l⟩
 ·obtain rfl:_=x:=Option.some.inj I;obtain rfl:_=u:=Option.some.inj P;exact⟨L,N,rfl,by omega,by omega,D,E⟩
 ·cases I
set_option maxRecDepth 100000 in
set_option maxHeartbeats 1000000 in
theorem zbe(w:World):Calls Tryz.prog 79 #[.int .i64 6] w (qgi [.ch,.number,.hash] w):=by
 go_enter Tryz.func79,Tryz.ntmps79;go_wp2_with fail;refine(qak 8 103 w).mono ?_;rintro e w1 ⟨_,rfl,q,p1,q1,rfl,W,a4,g,l⟩;go_wp2_with fail;refine(qak 8 104 w1).mono ?_;rintro e w2 ⟨_,rfl,J,p2,q2,rfl,X,a5,m,o⟩;have a8:=q.size;replace g:=J.cell g (fun h=>h);replace l:=J.cell l (fun h=>h);replace q:=q.trans J;clear J;go_wp2_with fail;refine(qax 4 106 w2).mono ?_;rintro e w3 ⟨_,rfl,H,p3,q3,rfl,Y,a6,y,z⟩;have a9:=q.size;replace g:=H.cell g (fun h=>h);replace l:=H.cell l (fun h=>h);replace m:=H.cell m (fun h=>h);replace o:=H.cell o (fun h=>h);replace q:=q.trans H;clear H;go_wp2_with fail;refine(qax 2 107 w3).mono ?_;rintro e M ⟨_,rfl,C,K,L,rfl,Z,a7,D,E⟩;have b3:=q.size;replace g:=C.cell g (fun h=>h);replace l:=C.cell l (fun h=>h);replace m:=C.cell m (fun h=>h);replace o:=C.cell o (fun h=>h);replace y:=C.cell y (fun h=>h);replace z:=C.cell z (fun h=>h);replace q:=q.trans C;have b4:=q.size;clear C;go_wp2_with fail;have F:qq M (M.alloc (.cells #[(.func (.func 122) #[] #[.pointer (some ⟨K,0,none⟩),.pointer (some ⟨L,0,none⟩)]),(.func (.func 109) #[] #[])] 174)):=(Upd.refl _ _).alloc _;refine(qh6 M.heap.size [(.func (.func 122) #[] #[.pointer (some ⟨K,0,none⟩),.pointer (some ⟨L,0,none⟩)]),(.func (.func 109) #[] #[])] _ (qi M (.cells #[(.func (.func 122) #[] #[.pointer (some ⟨K,0,none⟩),.pointer (some ⟨L,0,none⟩)]),(.func (.func 109) #[] #[])] 174)) ?one (by show 2≤100;decide)).mono ?_
 case one=>intro v hv;simp only[List.mem_cons,List.not_mem_nil,or_false] at hv;rcases hv with rfl | rfl<;>rfl
 rintro e w5 ⟨v,c,rfl,R,P,O⟩;have b5:=F.size;have t:=F.trans R;have V:=qb (qgn P (show w.heap.size≤_ by omega));have T:=qb (O.later (show w.heap.size≤_ by omega));replace g:=t.cell g (fun h=>h);replace l:=t.cell l (fun h=>h);replace m:=t.cell m (fun h=>h);replace o:=t.cell o (fun h=>h);replace y:=t.cell y (fun h=>h);replace z:=t.cell z (fun h=>h);replace D:=t.cell D (fun h=>h);replace E:=t.cell E (fun h=>h);have U:=qb (q.trans t);clear q R t F P O;go_wp2_with fail;go_ret2;refine⟨v,rfl,qa U,⟨_,qa V,rfl,?_⟩⟩;intro i x u I N;rcases i with _ | _ | _ | _
 ·obtain rfl:_=x:=Option.some.inj I;obtain rfl:_=u:=Option.some.inj N;exact qa T
 ·obtain rfl:_=x:=Option.some.inj I;obtain rfl:_=u:=Option.some.inj N;exact⟨K,L,rfl,by omega,by omega,D,E⟩
 ·obtain rfl:_=x:=Option.some.inj I;obtain rfl:_=u:=Option.some.inj N;exact rfl
 ·cases I
set_option maxRecDepth 100000 in
set_option maxHeartbeats 1000000 in
theorem zbf(w:World):Calls Tryz.prog 79 #[.int .i64 7] w (qgi [.ch,.number,.hash] w):=by
 go_enter Tryz.func79,Tryz.ntmps79;go_wp2_with fail;refine(qak 8 103 w).mono ?_;rintro e w1 ⟨_,rfl,q,p1,q1,rfl,W,a4,g,l⟩;go_wp2_with fail;refine(qak 8 104 w1).mono ?_;rintro e w2 ⟨_,rfl,J,p2,q2,rfl,X,a5,m,o⟩;have a8:=q.size;replace g:=J.cell g (fun h=>h);replace l:=J.cell l (fun h=>h);replace q:=q.trans J;clear J;go_wp2_with fail;refine(qax 4 106 w2).mono ?_;rintro e w3 ⟨_,rfl,H,p3,q3,rfl,Y,a6,y,z⟩;have a9:=q.size;replace g:=H.cell g (fun h=>h);replace l:=H.cell l (fun h=>h);replace m:=H.cell m (fun h=>h);replace o:=H.cell o (fun h=>h);replace q:=q.trans H;clear H;go_wp2_with fail;refine(qax 2 107 w3).mono ?_;rintro e M ⟨_,rfl,C,K,L,rfl,Z,a7,D,E⟩;have b3:=q.size;replace g:=C.cell g (fun h=>h);replace l:=C.cell l (fun h=>h);replace m:=C.cell m (fun h=>h);replace o:=C.cell o (fun h=>h);replace y:=C.cell y (fun h=>h);replace z:=C.cell z (fun h=>h);replace q:=q.trans C;have b4:=q.size;clear C;go_wp2_with fail;have F:qq M (M.alloc (.cells #[(.func (.func 122) #[] #[.pointer (some ⟨K,0,none⟩),.pointer (some ⟨L,0,none⟩)]),(.func (.func 109) #[] #[])] 174)):=(Upd.refl _ _).alloc _;refine(qh6 M.heap.size [(.func (.func 122) #[] #[.pointer (some ⟨K,0,none⟩),.pointer (some ⟨L,0,none⟩)]),(.func (.func 109) #[] #[])] _ (qi M (.cells #[(.func (.func 122) #[] #[.pointer (some ⟨K,0,none⟩),.pointer (some ⟨L,0,none⟩)]),(.func (.func 109) #[] #[])] 174)) ?one (by show 2≤100;decide)).mono ?_
 case one=>intro v hv;simp only[List.mem_cons,List.not_mem_nil,or_false] at hv;rcases hv with rfl | rfl<;>rfl
 rintro e w5 ⟨v,c,rfl,R,P,O⟩;have b5:=F.size;have t:=F.trans R;have V:=qb (qgn P (show w.heap.size≤_ by omega));have T:=qb (O.later (show w.heap.size≤_ by omega));replace g:=t.cell g (fun h=>h);replace l:=t.cell l (fun h=>h);replace m:=t.cell m (fun h=>h);replace o:=t.cell o (fun h=>h);replace y:=t.cell y (fun h=>h);replace z:=t.cell z (fun h=>h);replace D:=t.cell D (fun h=>h);replace E:=t.cell E (fun h=>h);have U:=qb (q.trans t);clear q R t F P O;go_wp2_with fail;go_ret2;refine⟨v,rfl,qa U,⟨_,qa V,rfl,?_⟩⟩;intro i x u I N;rcases i with _ | _ | _ | _
 ·obtain rfl:_=x:=Option.some.inj I;obtain rfl:_=u:=Option.some.inj N;exact qa T
 ·obtain rfl:_=x:=Option.some.inj I;obtain rfl:_=u:=Option.some.inj N;exact⟨K,L,rfl,by omega,by omega,D,E⟩
 ·obtain rfl:_=x:=Option.some.inj I;obtain rfl:_=u:=Option.some.inj N;exact rfl
 ·cases I
set_option maxRecDepth 100000 in
set_option maxHeartbeats 1000000 in
theorem zbg(w:World):Calls Tryz.prog 79 #[.int .i64 8] w (qgi [.ch] w):=by
 go_enter Tryz.func79,Tryz.ntmps79;go_wp2_with fail;refine(qak 8 103 w).mono ?_;rintro e w1 ⟨_,rfl,q,p1,q1,rfl,T,X,g,l⟩;go_wp2_with fail;refine(qak 8 104 w1).mono ?_;rintro e w2 ⟨_,rfl,I,p2,q2,rfl,U,Y,m,o⟩;have a5:=q.size;replace g:=I.cell g (fun h=>h);replace l:=I.cell l (fun h=>h);replace q:=q.trans I;clear I;go_wp2_with fail;refine(qax 4 106 w2).mono ?_;rintro e w3 ⟨_,rfl,E,p3,q3,rfl,V,Z,y,z⟩;have a6:=q.size;replace g:=E.cell g (fun h=>h);replace l:=E.cell l (fun h=>h);replace m:=E.cell m (fun h=>h);replace o:=E.cell o (fun h=>h);replace q:=q.trans E;clear E;go_wp2_with fail;refine(qax 2 107 w3).mono ?_;rintro e J ⟨_,rfl,C,p4,q4,rfl,W,a4,F,H⟩;have a7:=q.size;replace g:=C.cell g (fun h=>h);replace l:=C.cell l (fun h=>h);replace m:=C.cell m (fun h=>h);replace o:=C.cell o (fun h=>h);replace y:=C.cell y (fun h=>h);replace z:=C.cell z (fun h=>h);replace q:=q.trans C;have a8:=q.size;clear C;go_wp2_with fail;have D:qq J J:=Upd.refl _ _;refine(qvl J).mono ?_;rintro e w5 ⟨v,c,rfl,N,L,K⟩;have a9:=D.size;have t:=D.trans N;have R:=qb (qgn L (show w.heap.size≤_ by omega));have O:=qb (K.later (show w.heap.size≤_ by omega));replace g:=t.cell g (fun h=>h);replace l:=t.cell l (fun h=>h);replace m:=t.cell m (fun h=>h);replace o:=t.cell o (fun h=>h);replace y:=t.cell y (fun h=>h);replace z:=t.cell z (fun h=>h);replace F:=t.cell F (fun h=>h);replace H:=t.cell H (fun h=>h);have P:=qb (q.trans t);clear q N t D L K;go_wp2_with fail;go_ret2;refine⟨v,rfl,qa P,⟨_,qa R,rfl,?_⟩⟩
 intro i x u M hu;rcases i with _ | _
 ·obtain rfl:_=x:=Option.some.inj M;obtain rfl:_=u:=Option.some.inj hu;exact qa O
 ·cases M
set_option maxRecDepth 100000 in
set_option maxHeartbeats 1000000 in
theorem zbh(w:World):Calls Tryz.prog 79 #[.int .i64 9] w (qgi [.ch,.number,.id] w):=by
 go_enter Tryz.func79,Tryz.ntmps79;go_wp2_with fail;refine(qak 8 103 w).mono ?_;rintro e w1 ⟨_,rfl,q,K,M,rfl,Y,a6,g,l⟩;go_wp2_with fail;refine(qak 8 104 w1).mono ?_;rintro e w2 ⟨_,rfl,J,p2,q2,rfl,Z,a7,m,o⟩;have b3:=q.size;replace g:=J.cell g (fun h=>h);replace l:=J.cell l (fun h=>h);replace q:=q.trans J;clear J;go_wp2_with fail;refine(qax 4 106 w2).mono ?_;rintro e w3 ⟨_,rfl,H,p3,q3,rfl,a4,a8,y,z⟩;have b4:=q.size;replace g:=H.cell g (fun h=>h);replace l:=H.cell l (fun h=>h);replace m:=H.cell m (fun h=>h);replace o:=H.cell o (fun h=>h);replace q:=q.trans H;clear H;go_wp2_with fail;refine(qax 2 107 w3).mono ?_;rintro e O ⟨_,rfl,C,L,N,rfl,a5,a9,D,E⟩;have b5:=q.size;replace g:=C.cell g (fun h=>h);replace l:=C.cell l (fun h=>h);replace m:=C.cell m (fun h=>h);replace o:=C.cell o (fun h=>h);replace y:=C.cell y (fun h=>h);replace z:=C.cell z (fun h=>h);replace q:=q.trans C;have b6:=q.size;clear C;go_wp2_with fail;have F:qq O (O.alloc (.cells #[(.func (.func 122) #[] #[.pointer (some ⟨L,0,none⟩),.pointer (some ⟨N,0,none⟩)]),(.func (.func 119) #[] #[.pointer (some ⟨K,0,none⟩),.pointer (some ⟨M,0,none⟩)])] 174)):=(Upd.refl _ _).alloc _;refine(qh6 O.heap.size [(.func (.func 122) #[] #[.pointer (some ⟨L,0,none⟩),.pointer (some ⟨N,0,none⟩)]),(.func (.func 119) #[] #[.pointer (some ⟨K,0,none⟩),.pointer (some ⟨M,0,none⟩)])] _ (qi O (.cells #[(.func (.func 122) #[] #[.pointer (some ⟨L,0,none⟩),.pointer (some ⟨N,0,none⟩)]),(.func (.func 119) #[] #[.pointer (some ⟨K,0,none⟩),.pointer (some ⟨M,0,none⟩)])] 174)) ?one (by show 2≤100;decide)).mono ?_
 case one=>intro v hv;simp only[List.mem_cons,List.not_mem_nil,or_false] at hv;rcases hv with rfl | rfl<;>rfl
 rintro e w5 ⟨v,c,rfl,U,T,R⟩;have b7:=F.size;have t:=F.trans U;have X:=qb (qgn T (show w.heap.size≤_ by omega));have V:=qb (R.later (show w.heap.size≤_ by omega));replace g:=t.cell g (fun h=>h);replace l:=t.cell l (fun h=>h);replace m:=t.cell m (fun h=>h);replace o:=t.cell o (fun h=>h);replace y:=t.cell y (fun h=>h);replace z:=t.cell z (fun h=>h);replace D:=t.cell D (fun h=>h);replace E:=t.cell E (fun h=>h);have W:=qb (q.trans t);clear q U t F T R;go_wp2_with fail;go_ret2;refine⟨v,rfl,qa W,⟨_,qa X,rfl,?_⟩⟩;intro i x u I P;rcases i with _ | _ | _ | _
 ·obtain rfl:_=x:=Option.some.inj I;obtain rfl:_=u:=Option.some.inj P;exact qa V
 ·obtain rfl:_=x:=Option.some.inj I;obtain rfl:_=u:=Option.some.inj P;exact⟨L,N,rfl,by omega,by omega,D,E⟩
 ·obtain rfl:_=x:=Option.some.inj I;obtain rfl:_=u:=Option.some.inj P;exact⟨K,M,rfl,by omega,by omega,g,l⟩
 ·cases I
set_option maxRecDepth 100000 in
set_option maxHeartbeats 1000000 in
theorem qz0(k:Int)(C:fieldsOf k=none)(w:World):Calls Tryz.prog 79 #[.int .i64 k] w (qbf (.tuple #[qcg,.bool false]) w):=by
 have z:¬k=1∧¬k=2∧¬k=3∧¬k=4∧¬k=5∧¬k=6∧¬k=7∧¬k=8∧¬k=9:=by
  refine⟨?_,?_,?_,?_,?_,?_,?_,?_,?_⟩<;>(rintro rfl;cases C)
 obtain⟨W,X,Y,Z,e5,e6,e7,e8,e9⟩:=z;clear C;go_enter Tryz.func79,Tryz.ntmps79;go_wp2_with fail;refine(qak 8 103 w).mono ?_;rintro e w1 ⟨_,rfl,l,p1,q1,rfl,F,K,g,i⟩;go_wp2_with fail;refine(qak 8 104 w1).mono ?_;rintro e U ⟨_,rfl,y,p2,q2,rfl,H,L,m,o⟩;have O:=l.size;replace g:=y.cell g (fun h=>h);replace i:=y.cell i (fun h=>h);replace l:=l.trans y;clear y;go_wp2_with fail;refine(qax 4 106 U).mono ?_;rintro e V ⟨_,rfl,t,p3,q3,rfl,I,M,v,x⟩;have P:=l.size;replace g:=t.cell g (fun h=>h);replace i:=t.cell i (fun h=>h);replace m:=t.cell m (fun h=>h);replace o:=t.cell o (fun h=>h);replace l:=l.trans t;clear t;go_wp2_with fail;refine(qax 2 107 V).mono ?_;rintro e w4 ⟨_,rfl,q,p4,q4,rfl,J,N,D,E⟩;have R:=l.size;replace g:=q.cell g (fun h=>h);replace i:=q.cell i (fun h=>h);replace m:=q.cell m (fun h=>h);replace o:=q.cell o (fun h=>h);replace v:=q.cell v (fun h=>h);replace x:=q.cell x (fun h=>h);replace l:=l.trans q;have T:=l.size;clear q;go_wp2_with fail;go_ret2;exact⟨rfl,l⟩
theorem q26(k:Int)(xs:List Fld)(g:fieldsOf k=some xs)(w:World):Calls Tryz.prog 79 #[.int .i64 k] w (qgi xs w):=by
 unfold fieldsOf at g;by_cases i:k=1
 ·subst i;obtain rfl:_=xs:=Option.some.inj g;exact za9 w
 rw[if_neg i] at g;by_cases l:k=2
 ·subst l;obtain rfl:_=xs:=Option.some.inj g;exact zba w
 rw[if_neg l] at g;by_cases m:k=3
 ·subst m;obtain rfl:_=xs:=Option.some.inj g;exact zbb w
 rw[if_neg m] at g;by_cases o:k=4
 ·subst o;obtain rfl:_=xs:=Option.some.inj g;exact zbc w
 rw[if_neg o] at g;by_cases q:k=5
 ·subst q;obtain rfl:_=xs:=Option.some.inj g;exact zbd w
 rw[if_neg q] at g;by_cases t:k=6
 ·subst t;obtain rfl:_=xs:=Option.some.inj g;exact zbe w
 rw[if_neg t] at g;by_cases v:k=7
 ·subst v;obtain rfl:_=xs:=Option.some.inj g;exact zbf w
 rw[if_neg v] at g;by_cases x:k=8
 ·subst x;obtain rfl:_=xs:=Option.some.inj g;exact zbg w
 rw[if_neg x] at g;by_cases y:k=9
 ·subst y;obtain rfl:_=xs:=Option.some.inj g;exact zbh w
 rw[if_neg y] at g;cases g
end Go.Proofs.YthnohmjbbeahmaaGreatDoor
