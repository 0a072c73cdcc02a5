/-
  wire.fields (printed by tools/mk_fld.py).
-/
import Derived.Test.YthnohmjbbeahmaaGreatDoorMbh
set_option linter.unusedVariables false
set_option linter.unusedSimpArgs false
namespace Go.Proofs.YthnohmjbbeahmaaGreatDoor
open Go.RowKit
def fieldsOf(kind:Int):Option (List Fld) :=
 if kind=1 then some [.ch,.amount] else if kind=2 then some [.ch] else if kind=3 then some [.ch,.id,.amount,.hash,.expiry] else if kind=4 then some [.ch,.id,.hash] else if kind=5 then some [.ch,.id,.number]
 else if kind=6 then some [.ch,.number,.hash] else if kind=7 then some [.ch,.number,.hash] else if kind=8 then some [.ch] else if kind=9 then some [.ch,.number,.id] else none
theorem qgn{w:World}{a b:Nat}{e:TypeId}{size:Nat}{v:Value}{n:Nat}{xs:List Value}(h:w.ownsRow b e size v n xs)(ab:a≤b):w.ownsRow a e size v n xs:=by
 refine⟨h.1,?_⟩;rcases h.2 with h | ⟨g,cap,i,l,m,r⟩
 ·exact .inl h
 ·exact .inr ⟨g,cap,i,l,by omega,r⟩
def qgj(xs:List Fld)(w:World)(e:Ending)(w':World):Prop:=∃v,e = .returned (.tuple #[v,.bool true])∧qu w w'∧FldsO w.heap.size w' v xs
set_option maxRecDepth 100000 in
set_option maxHeartbeats 1000000 in
theorem q9l(w:World):Calls Tryz.prog 79 #[.int .i64 1] w (qgj [.ch,.amount] w):=by
 go_enter Tryz.func79,Tryz.ntmps79;go_wp2_with fail;refine(qah 8 103 w).mono ?_;rintro e w1 ⟨_,rfl,q,p1,q1,rfl,X,a5,g,l⟩;go_wp2_with fail;refine(qah 8 104 w1).mono ?_;rintro e w2 ⟨_,rfl,J,K,L,rfl,Y,a6,m,o⟩;have a9:=q.size;replace g:=J.cell g (fun h=>h);replace l:=J.cell l (fun h=>h);replace q:=q.trans J;clear J;go_wp2_with fail;refine(qav 4 106 w2).mono ?_;rintro e w3 ⟨_,rfl,F,p3,q3,rfl,Z,a7,z,C⟩;have b3:=q.size;replace g:=F.cell g (fun h=>h);replace l:=F.cell l (fun h=>h);replace m:=F.cell m (fun h=>h);replace o:=F.cell o (fun h=>h);replace q:=q.trans F;clear F;go_wp2_with fail;refine(qav 2 107 w3).mono ?_;rintro e M ⟨_,rfl,D,p4,q4,rfl,a4,a8,H,I⟩;have b4:=q.size;replace g:=D.cell g (fun h=>h);replace l:=D.cell l (fun h=>h);replace m:=D.cell m (fun h=>h);replace o:=D.cell o (fun h=>h);replace z:=D.cell z (fun h=>h);replace C:=D.cell C (fun h=>h);replace q:=q.trans D;have b5:=q.size;clear D;go_wp2_with fail;have E:qu M (M.alloc (.cells #[(.func (.func 119) #[] #[.pointer (some ⟨K,0,none⟩),.pointer (some ⟨L,0,none⟩)])] 174)):=(Upd.refl _ _).alloc _;refine(qhp M.heap.size [(.func (.func 119) #[] #[.pointer (some ⟨K,0,none⟩),.pointer (some ⟨L,0,none⟩)])] _ (qi M (.cells #[(.func (.func 119) #[] #[.pointer (some ⟨K,0,none⟩),.pointer (some ⟨L,0,none⟩)])] 174)) ?one (by show 1≤100;decide)).mono ?_
 case one=>intro v hv;simp only[List.mem_cons,List.not_mem_nil,or_false] at hv;rcases hv with rfl<;>rfl
 rintro e w5 ⟨v,c,rfl,T,P,O⟩;have b6:=E.size;have t:=E.trans T;have W:=qb (qgn P (show w.heap.size≤_ by omega));have U:=qb (O.later (show w.heap.size≤_ by omega));replace g:=t.cell g (fun h=>h);replace l:=t.cell l (fun h=>h);replace m:=t.cell m (fun h=>h);replace o:=t.cell o (fun h=>h);replace z:=t.cell z (fun h=>h);replace C:=t.cell C (fun h=>h);replace H:=t.cell H (fun h=>h);replace I:=t.cell I (fun h=>h);have V:=qb (q.trans t);clear q T t E P O;go_wp2_with fail;go_ret2;refine⟨v,rfl,qa V,⟨_,qa W,rfl,?_⟩⟩;intro i x u N R;rcases i with _ | _ | _
 ·obtain rfl:_=x:=Option.some.inj N;obtain rfl:_=u:=Option.some.inj R;exact qa U
 ·obtain rfl:_=x:=Option.some.inj N;obtain rfl:_=u:=Option.some.inj R;exact⟨K,L,rfl,by omega,by omega,m,o⟩
 ·cases N
set_option maxRecDepth 100000 in
set_option maxHeartbeats 1000000 in
theorem q9m(w:World):Calls Tryz.prog 79 #[.int .i64 2] w (qgj [.ch] w):=by
 go_enter Tryz.func79,Tryz.ntmps79;go_wp2_with fail;refine(qah 8 103 w).mono ?_;rintro e w1 ⟨_,rfl,q,p1,q1,rfl,U,Y,g,l⟩;go_wp2_with fail;refine(qah 8 104 w1).mono ?_;rintro e w2 ⟨_,rfl,J,p2,q2,rfl,V,Z,m,o⟩;have a6:=q.size;replace g:=J.cell g (fun h=>h);replace l:=J.cell l (fun h=>h);replace q:=q.trans J;clear J;go_wp2_with fail;refine(qav 4 106 w2).mono ?_;rintro e w3 ⟨_,rfl,F,p3,q3,rfl,W,a4,z,C⟩;have a7:=q.size;replace g:=F.cell g (fun h=>h);replace l:=F.cell l (fun h=>h);replace m:=F.cell m (fun h=>h);replace o:=F.cell o (fun h=>h);replace q:=q.trans F;clear F;go_wp2_with fail;refine(qav 2 107 w3).mono ?_;rintro e K ⟨_,rfl,D,p4,q4,rfl,X,a5,H,I⟩;have a8:=q.size;replace g:=D.cell g (fun h=>h);replace l:=D.cell l (fun h=>h);replace m:=D.cell m (fun h=>h);replace o:=D.cell o (fun h=>h);replace z:=D.cell z (fun h=>h);replace C:=D.cell C (fun h=>h);replace q:=q.trans D;have a9:=q.size;clear D;go_wp2_with fail;have E:qu K K:=Upd.refl _ _;refine(quk K).mono ?_;rintro e w5 ⟨v,c,rfl,O,M,L⟩;have b3:=E.size;have t:=E.trans O;have T:=qb (qgn M (show w.heap.size≤_ by omega));have P:=qb (L.later (show w.heap.size≤_ by omega));replace g:=t.cell g (fun h=>h);replace l:=t.cell l (fun h=>h);replace m:=t.cell m (fun h=>h);replace o:=t.cell o (fun h=>h);replace z:=t.cell z (fun h=>h);replace C:=t.cell C (fun h=>h);replace H:=t.cell H (fun h=>h);replace I:=t.cell I (fun h=>h);have R:=qb (q.trans t);clear q O t E M L;go_wp2_with fail;go_ret2;refine⟨v,rfl,qa R,⟨_,qa T,rfl,?_⟩⟩
 intro i x u N hu;rcases i with _ | _
 ·obtain rfl:_=x:=Option.some.inj N;obtain rfl:_=u:=Option.some.inj hu;exact qa P
 ·cases N
set_option maxRecDepth 100000 in
set_option maxHeartbeats 1000000 in
theorem q9n(w:World):Calls Tryz.prog 79 #[.int .i64 3] w (qgj [.ch,.id,.amount,.hash,.expiry] w):=by
 go_enter Tryz.func79,Tryz.ntmps79;go_wp2_with fail;refine(qah 8 103 w).mono ?_;rintro e w1 ⟨_,rfl,q,M,P,rfl,a4,a8,g,l⟩;go_wp2_with fail;refine(qah 8 104 w1).mono ?_;rintro e w2 ⟨_,rfl,L,N,R,rfl,a5,a9,m,o⟩;have b5:=q.size;replace g:=L.cell g (fun h=>h);replace l:=L.cell l (fun h=>h);replace q:=q.trans L;clear L;go_wp2_with fail;refine(qav 4 106 w2).mono ?_;rintro e w3 ⟨_,rfl,H,O,T,rfl,a6,b3,t,z⟩;have b6:=q.size;replace g:=H.cell g (fun h=>h);replace l:=H.cell l (fun h=>h);replace m:=H.cell m (fun h=>h);replace o:=H.cell o (fun h=>h);replace q:=q.trans H;clear H;go_wp2_with fail;refine(qav 2 107 w3).mono ?_;rintro e U ⟨_,rfl,D,p4,q4,rfl,a7,b4,I,J⟩;have b7:=q.size;replace g:=D.cell g (fun h=>h);replace l:=D.cell l (fun h=>h);replace m:=D.cell m (fun h=>h);replace o:=D.cell o (fun h=>h);replace t:=D.cell t (fun h=>h);replace z:=D.cell z (fun h=>h);replace q:=q.trans D;have b8:=q.size;clear D;go_wp2_with fail;have E:qu U (U.alloc (.cells #[(.func (.func 119) #[] #[.pointer (some ⟨M,0,none⟩),.pointer (some ⟨P,0,none⟩)]),(.func (.func 119) #[] #[.pointer (some ⟨N,0,none⟩),.pointer (some ⟨R,0,none⟩)]),(.func (.func 109) #[] #[]),(.func (.func 122) #[] #[.pointer (some ⟨O,0,none⟩),.pointer (some ⟨T,0,none⟩)])] 174)):=(Upd.refl _ _).alloc _;refine(qhp U.heap.size [(.func (.func 119) #[] #[.pointer (some ⟨M,0,none⟩),.pointer (some ⟨P,0,none⟩)]),(.func (.func 119) #[] #[.pointer (some ⟨N,0,none⟩),.pointer (some ⟨R,0,none⟩)]),(.func (.func 109) #[] #[]),(.func (.func 122) #[] #[.pointer (some ⟨O,0,none⟩),.pointer (some ⟨T,0,none⟩)])] _ (qi U (.cells #[(.func (.func 119) #[] #[.pointer (some ⟨M,0,none⟩),.pointer (some ⟨P,0,none⟩)]),(.func (.func 119) #[] #[.pointer (some ⟨N,0,none⟩),.pointer (some ⟨R,0,none⟩)]),(.func (.func 109) #[] #[]),(.func (.func 122) #[] #[.pointer (some ⟨O,0,none⟩),.pointer (some ⟨T,0,none⟩)])] 174)) ?one (by show 4≤100;decide)).mono ?_
 case one=>intro v hv;simp only[List.mem_cons,List.not_mem_nil,or_false] at hv;rcases hv with rfl | rfl | rfl | rfl<;>rfl
 rintro e w5 ⟨v,c,rfl,X,W,V⟩;have b9:=E.size;have C:=E.trans X;have HO:=qb (qgn W (show w.heap.size≤_ by omega));have Y:=qb (V.later (show w.heap.size≤_ by omega));replace g:=C.cell g (fun h=>h);replace l:=C.cell l (fun h=>h);replace m:=C.cell m (fun h=>h);replace o:=C.cell o (fun h=>h);replace t:=C.cell t (fun h=>h);replace z:=C.cell z (fun h=>h);replace I:=C.cell I (fun h=>h);replace J:=C.cell J (fun h=>h);have Z:=qb (q.trans C);clear q X C E W V;go_wp2_with fail;go_ret2;refine⟨v,rfl,qa Z,⟨_,qa HO,rfl,?_⟩⟩;intro i x u F K;rcases i with _ | _ | _ | _ | _ | _
 ·obtain rfl:_=x:=Option.some.inj F;obtain rfl:_=u:=Option.some.inj K;exact qa Y
 ·obtain rfl:_=x:=Option.some.inj F;obtain rfl:_=u:=Option.some.inj K;exact⟨M,P,rfl,by omega,by omega,g,l⟩
 ·obtain rfl:_=x:=Option.some.inj F;obtain rfl:_=u:=Option.some.inj K;exact⟨N,R,rfl,by omega,by omega,m,o⟩
 ·obtain rfl:_=x:=Option.some.inj F;obtain rfl:_=u:=Option.some.inj K;exact rfl
 ·obtain rfl:_=x:=Option.some.inj F;obtain rfl:_=u:=Option.some.inj K;exact⟨O,T,rfl,by omega,by omega,t,z⟩
 ·cases F
set_option maxRecDepth 100000 in
set_option maxHeartbeats 1000000 in
theorem q9o(w:World):Calls Tryz.prog 79 #[.int .i64 4] w (qgj [.ch,.id,.hash] w):=by
 go_enter Tryz.func79,Tryz.ntmps79;go_wp2_with fail;refine(qah 8 103 w).mono ?_;rintro e w1 ⟨_,rfl,q,L,M,rfl,X,a5,g,l⟩;go_wp2_with fail;refine(qah 8 104 w1).mono ?_;rintro e w2 ⟨_,rfl,K,p2,q2,rfl,Y,a6,m,o⟩;have a9:=q.size;replace g:=K.cell g (fun h=>h);replace l:=K.cell l (fun h=>h);replace q:=q.trans K;clear K;go_wp2_with fail;refine(qav 4 106 w2).mono ?_;rintro e w3 ⟨_,rfl,F,p3,q3,rfl,Z,a7,z,C⟩;have b3:=q.size;replace g:=F.cell g (fun h=>h);replace l:=F.cell l (fun h=>h);replace m:=F.cell m (fun h=>h);replace o:=F.cell o (fun h=>h);replace q:=q.trans F;clear F;go_wp2_with fail;refine(qav 2 107 w3).mono ?_;rintro e N ⟨_,rfl,D,p4,q4,rfl,a4,a8,H,I⟩;have b4:=q.size;replace g:=D.cell g (fun h=>h);replace l:=D.cell l (fun h=>h);replace m:=D.cell m (fun h=>h);replace o:=D.cell o (fun h=>h);replace z:=D.cell z (fun h=>h);replace C:=D.cell C (fun h=>h);replace q:=q.trans D;have b5:=q.size;clear D;go_wp2_with fail;have E:qu N (N.alloc (.cells #[(.func (.func 119) #[] #[.pointer (some ⟨L,0,none⟩),.pointer (some ⟨M,0,none⟩)]),(.func (.func 109) #[] #[])] 174)):=(Upd.refl _ _).alloc _;refine(qhp N.heap.size [(.func (.func 119) #[] #[.pointer (some ⟨L,0,none⟩),.pointer (some ⟨M,0,none⟩)]),(.func (.func 109) #[] #[])] _ (qi N (.cells #[(.func (.func 119) #[] #[.pointer (some ⟨L,0,none⟩),.pointer (some ⟨M,0,none⟩)]),(.func (.func 109) #[] #[])] 174)) ?one (by show 2≤100;decide)).mono ?_
 case one=>intro v hv;simp only[List.mem_cons,List.not_mem_nil,or_false] at hv;rcases hv with rfl | rfl<;>rfl
 rintro e w5 ⟨v,c,rfl,T,R,P⟩;have b6:=E.size;have t:=E.trans T;have W:=qb (qgn R (show w.heap.size≤_ by omega));have U:=qb (P.later (show w.heap.size≤_ by omega));replace g:=t.cell g (fun h=>h);replace l:=t.cell l (fun h=>h);replace m:=t.cell m (fun h=>h);replace o:=t.cell o (fun h=>h);replace z:=t.cell z (fun h=>h);replace C:=t.cell C (fun h=>h);replace H:=t.cell H (fun h=>h);replace I:=t.cell I (fun h=>h);have V:=qb (q.trans t);clear q T t E R P;go_wp2_with fail;go_ret2;refine⟨v,rfl,qa V,⟨_,qa W,rfl,?_⟩⟩;intro i x u J O;rcases i with _ | _ | _ | _
 ·obtain rfl:_=x:=Option.some.inj J;obtain rfl:_=u:=Option.some.inj O;exact qa U
 ·obtain rfl:_=x:=Option.some.inj J;obtain rfl:_=u:=Option.some.inj O;exact⟨L,M,rfl,by omega,by omega,g,l⟩
 ·obtain rfl:_=x:=Option.some.inj J;obtain rfl:_=u:=Option.some.inj O;exact rfl
 ·cases J
set_option maxRecDepth 100000 in
set_option maxHeartbeats 1000000 in
theorem q9p(w:World):Calls Tryz.prog 79 #[.int .i64 5] w (qgj [.ch,.id,.number] w):=by
 go_enter Tryz.func79,Tryz.ntmps79;go_wp2_with fail;refine(qah 8 103 w).mono ?_;rintro e w1 ⟨_,rfl,q,L,N,rfl,Z,a7,g,l⟩;go_wp2_with fail;refine(qah 8 104 w1).mono ?_;rintro e w2 ⟨_,rfl,K,p2,q2,rfl,a4,a8,m,o⟩;have b4:=q.size;replace g:=K.cell g (fun h=>h);replace l:=K.cell l (fun h=>h);replace q:=q.trans K;clear K;go_wp2_with fail;refine(qav 4 106 w2).mono ?_;rintro e w3 ⟨_,rfl,I,p3,q3,rfl,a5,a9,z,C⟩;have b5:=q.size;replace g:=I.cell g (fun h=>h);replace l:=I.cell l (fun h=>h);replace m:=I.cell m (fun h=>h);replace o:=I.cell o (fun h=>h);replace q:=q.trans I;clear I;go_wp2_with fail;refine(qav 2 107 w3).mono ?_;rintro e P ⟨_,rfl,D,M,O,rfl,a6,b3,E,F⟩;have b6:=q.size;replace g:=D.cell g (fun h=>h);replace l:=D.cell l (fun h=>h);replace m:=D.cell m (fun h=>h);replace o:=D.cell o (fun h=>h);replace z:=D.cell z (fun h=>h);replace C:=D.cell C (fun h=>h);replace q:=q.trans D;have b7:=q.size;clear D;go_wp2_with fail;have H:qu P (P.alloc (.cells #[(.func (.func 119) #[] #[.pointer (some ⟨L,0,none⟩),.pointer (some ⟨N,0,none⟩)]),(.func (.func 122) #[] #[.pointer (some ⟨M,0,none⟩),.pointer (some ⟨O,0,none⟩)])] 174)):=(Upd.refl _ _).alloc _;refine(qhp P.heap.size [(.func (.func 119) #[] #[.pointer (some ⟨L,0,none⟩),.pointer (some ⟨N,0,none⟩)]),(.func (.func 122) #[] #[.pointer (some ⟨M,0,none⟩),.pointer (some ⟨O,0,none⟩)])] _ (qi P (.cells #[(.func (.func 119) #[] #[.pointer (some ⟨L,0,none⟩),.pointer (some ⟨N,0,none⟩)]),(.func (.func 122) #[] #[.pointer (some ⟨M,0,none⟩),.pointer (some ⟨O,0,none⟩)])] 174)) ?one (by show 2≤100;decide)).mono ?_
 case one=>intro v hv;simp only[List.mem_cons,List.not_mem_nil,or_false] at hv;rcases hv with rfl | rfl<;>rfl
 rintro e w5 ⟨v,c,rfl,V,U,T⟩;have b8:=H.size;have t:=H.trans V;have Y:=qb (qgn U (show w.heap.size≤_ by omega));have W:=qb (T.later (show w.heap.size≤_ by omega));replace g:=t.cell g (fun h=>h);replace l:=t.cell l (fun h=>h);replace m:=t.cell m (fun h=>h);replace o:=t.cell o (fun h=>h);replace z:=t.cell z (fun h=>h);replace C:=t.cell C (fun h=>h);replace E:=t.cell E (fun h=>h);replace F:=t.cell F (fun h=>h);have X:=qb (q.trans t);clear q V t H U T;go_wp2_with fail;go_ret2;refine⟨v,rfl,qa X,⟨_,qa Y,rfl,?_⟩⟩;intro i x u J R;rcases i with _ | _ | _ | _
 ·obtain rfl:_=x:=Option.some.inj J;obtain rfl:_=u:=Option.some.inj R;exact qa W
 ·obtain rfl:_=x:=Option.some.inj J;obtain rfl:_=u:=Option.some.inj R;exact⟨L,N,rfl,by omega,by omega,g,l⟩
 ·obtain rfl:_=x:=Option.some.inj J;obtain rfl:_=u:=Option.some.inj R;exact⟨M,O,rfl,by omega,by omega,E,F⟩
 ·cases J
set_option maxRecDepth 100000 in
set_option maxHeartbeats 1000000 in
theorem q9q(w:World):Calls Tryz.prog 79 #[.int .i64 6] w (qgj [.ch,.number,.hash] w):=by
 go_enter Tryz.func79,Tryz.ntmps79;go_wp2_with fail;refine(qah 8 103 w).mono ?_;rintro e w1 ⟨_,rfl,q,p1,q1,rfl,X,a5,g,l⟩;go_wp2_with fail;refine(qah 8 104 w1).mono ?_;rintro e w2 ⟨_,rfl,K,p2,q2,rfl,Y,a6,m,o⟩;have a9:=q.size;replace g:=K.cell g (fun h=>h);replace l:=K.cell l (fun h=>h);replace q:=q.trans K;clear K;go_wp2_with fail;refine(qav 4 106 w2).mono ?_;rintro e w3 ⟨_,rfl,I,p3,q3,rfl,Z,a7,z,C⟩;have b3:=q.size;replace g:=I.cell g (fun h=>h);replace l:=I.cell l (fun h=>h);replace m:=I.cell m (fun h=>h);replace o:=I.cell o (fun h=>h);replace q:=q.trans I;clear I;go_wp2_with fail;refine(qav 2 107 w3).mono ?_;rintro e N ⟨_,rfl,D,L,M,rfl,a4,a8,E,F⟩;have b4:=q.size;replace g:=D.cell g (fun h=>h);replace l:=D.cell l (fun h=>h);replace m:=D.cell m (fun h=>h);replace o:=D.cell o (fun h=>h);replace z:=D.cell z (fun h=>h);replace C:=D.cell C (fun h=>h);replace q:=q.trans D;have b5:=q.size;clear D;go_wp2_with fail;have H:qu N (N.alloc (.cells #[(.func (.func 122) #[] #[.pointer (some ⟨L,0,none⟩),.pointer (some ⟨M,0,none⟩)]),(.func (.func 109) #[] #[])] 174)):=(Upd.refl _ _).alloc _;refine(qhp N.heap.size [(.func (.func 122) #[] #[.pointer (some ⟨L,0,none⟩),.pointer (some ⟨M,0,none⟩)]),(.func (.func 109) #[] #[])] _ (qi N (.cells #[(.func (.func 122) #[] #[.pointer (some ⟨L,0,none⟩),.pointer (some ⟨M,0,none⟩)]),(.func (.func 109) #[] #[])] 174)) ?one (by show 2≤100;decide)).mono ?_
 case one=>intro v hv;simp only[List.mem_cons,List.not_mem_nil,or_false] at hv;rcases hv with rfl | rfl<;>rfl
 rintro e w5 ⟨v,c,rfl,T,R,P⟩;have b6:=H.size;have t:=H.trans T;have W:=qb (qgn R (show w.heap.size≤_ by omega));have U:=qb (P.later (show w.heap.size≤_ by omega));replace g:=t.cell g (fun h=>h);replace l:=t.cell l (fun h=>h);replace m:=t.cell m (fun h=>h);replace o:=t.cell o (fun h=>h);replace z:=t.cell z (fun h=>h);replace C:=t.cell C (fun h=>h);replace E:=t.cell E (fun h=>h);replace F:=t.cell F (fun h=>h);have V:=qb (q.trans t);clear q T t H R P;go_wp2_with fail;go_ret2;refine⟨v,rfl,qa V,⟨_,qa W,rfl,?_⟩⟩;intro i x u J O;rcases i with _ | _ | _ | _
 ·obtain rfl:_=x:=Option.some.inj J;obtain rfl:_=u:=Option.some.inj O;exact qa U
 ·obtain rfl:_=x:=Option.some.inj J;obtain rfl:_=u:=Option.some.inj O;exact⟨L,M,rfl,by omega,by omega,E,F⟩
 ·obtain rfl:_=x:=Option.some.inj J;obtain rfl:_=u:=Option.some.inj O;exact rfl
 ·cases J
set_option maxRecDepth 100000 in
set_option maxHeartbeats 1000000 in
theorem q9r(w:World):Calls Tryz.prog 79 #[.int .i64 7] w (qgj [.ch,.number,.hash] w):=by
 go_enter Tryz.func79,Tryz.ntmps79;go_wp2_with fail;refine(qah 8 103 w).mono ?_;rintro e w1 ⟨_,rfl,q,p1,q1,rfl,X,a5,g,l⟩;go_wp2_with fail;refine(qah 8 104 w1).mono ?_;rintro e w2 ⟨_,rfl,K,p2,q2,rfl,Y,a6,m,o⟩;have a9:=q.size;replace g:=K.cell g (fun h=>h);replace l:=K.cell l (fun h=>h);replace q:=q.trans K;clear K;go_wp2_with fail;refine(qav 4 106 w2).mono ?_;rintro e w3 ⟨_,rfl,I,p3,q3,rfl,Z,a7,z,C⟩;have b3:=q.size;replace g:=I.cell g (fun h=>h);replace l:=I.cell l (fun h=>h);replace m:=I.cell m (fun h=>h);replace o:=I.cell o (fun h=>h);replace q:=q.trans I;clear I;go_wp2_with fail;refine(qav 2 107 w3).mono ?_;rintro e N ⟨_,rfl,D,L,M,rfl,a4,a8,E,F⟩;have b4:=q.size;replace g:=D.cell g (fun h=>h);replace l:=D.cell l (fun h=>h);replace m:=D.cell m (fun h=>h);replace o:=D.cell o (fun h=>h);replace z:=D.cell z (fun h=>h);replace C:=D.cell C (fun h=>h);replace q:=q.trans D;have b5:=q.size;clear D;go_wp2_with fail;have H:qu N (N.alloc (.cells #[(.func (.func 122) #[] #[.pointer (some ⟨L,0,none⟩),.pointer (some ⟨M,0,none⟩)]),(.func (.func 109) #[] #[])] 174)):=(Upd.refl _ _).alloc _;refine(qhp N.heap.size [(.func (.func 122) #[] #[.pointer (some ⟨L,0,none⟩),.pointer (some ⟨M,0,none⟩)]),(.func (.func 109) #[] #[])] _ (qi N (.cells #[(.func (.func 122) #[] #[.pointer (some ⟨L,0,none⟩),.pointer (some ⟨M,0,none⟩)]),(.func (.func 109) #[] #[])] 174)) ?one (by show 2≤100;decide)).mono ?_
 case one=>intro v hv;simp only[List.mem_cons,List.not_mem_nil,or_false] at hv;rcases hv with rfl | rfl<;>rfl
 rintro e w5 ⟨v,c,rfl,T,R,P⟩;have b6:=H.size;have t:=H.trans T;have W:=qb (qgn R (show w.heap.size≤_ by omega));have U:=qb (P.later (show w.heap.size≤_ by omega));replace g:=t.cell g (fun h=>h);replace l:=t.cell l (fun h=>h);replace m:=t.cell m (fun h=>h);replace o:=t.cell o (fun h=>h);replace z:=t.cell z (fun h=>h);replace C:=t.cell C (fun h=>h);replace E:=t.cell E (fun h=>h);replace F:=t.cell F (fun h=>h);have V:=qb (q.trans t);clear q T t H R P;go_wp2_with fail;go_ret2;refine⟨v,rfl,qa V,⟨_,qa W,rfl,?_⟩⟩;intro i x u J O;rcases i with _ | _ | _ | _
 ·obtain rfl:_=x:=Option.some.inj J;obtain rfl:_=u:=Option.some.inj O;exact qa U
 ·obtain rfl:_=x:=Option.some.inj J;obtain rfl:_=u:=Option.some.inj O;exact⟨L,M,rfl,by omega,by omega,E,F⟩
 ·obtain rfl:_=x:=Option.some.inj J;obtain rfl:_=u:=Option.some.inj O;exact rfl
 ·cases J
set_option maxRecDepth 100000 in
set_option maxHeartbeats 1000000 in
theorem q9s(w:World):Calls Tryz.prog 79 #[.int .i64 8] w (qgj [.ch] w):=by
 go_enter Tryz.func79,Tryz.ntmps79;go_wp2_with fail;refine(qah 8 103 w).mono ?_;rintro e w1 ⟨_,rfl,q,p1,q1,rfl,U,Y,g,l⟩;go_wp2_with fail;refine(qah 8 104 w1).mono ?_;rintro e w2 ⟨_,rfl,J,p2,q2,rfl,V,Z,m,o⟩;have a6:=q.size;replace g:=J.cell g (fun h=>h);replace l:=J.cell l (fun h=>h);replace q:=q.trans J;clear J;go_wp2_with fail;refine(qav 4 106 w2).mono ?_;rintro e w3 ⟨_,rfl,F,p3,q3,rfl,W,a4,z,C⟩;have a7:=q.size;replace g:=F.cell g (fun h=>h);replace l:=F.cell l (fun h=>h);replace m:=F.cell m (fun h=>h);replace o:=F.cell o (fun h=>h);replace q:=q.trans F;clear F;go_wp2_with fail;refine(qav 2 107 w3).mono ?_;rintro e K ⟨_,rfl,D,p4,q4,rfl,X,a5,H,I⟩;have a8:=q.size;replace g:=D.cell g (fun h=>h);replace l:=D.cell l (fun h=>h);replace m:=D.cell m (fun h=>h);replace o:=D.cell o (fun h=>h);replace z:=D.cell z (fun h=>h);replace C:=D.cell C (fun h=>h);replace q:=q.trans D;have a9:=q.size;clear D;go_wp2_with fail;have E:qu K K:=Upd.refl _ _;refine(quk K).mono ?_;rintro e w5 ⟨v,c,rfl,O,M,L⟩;have b3:=E.size;have t:=E.trans O;have T:=qb (qgn M (show w.heap.size≤_ by omega));have P:=qb (L.later (show w.heap.size≤_ by omega));replace g:=t.cell g (fun h=>h);replace l:=t.cell l (fun h=>h);replace m:=t.cell m (fun h=>h);replace o:=t.cell o (fun h=>h);replace z:=t.cell z (fun h=>h);replace C:=t.cell C (fun h=>h);replace H:=t.cell H (fun h=>h);replace I:=t.cell I (fun h=>h);have R:=qb (q.trans t);clear q O t E M L;go_wp2_with fail;go_ret2;refine⟨v,rfl,qa R,⟨_,qa T,rfl,?_⟩⟩
 intro i x u N hu;rcases i with _ | _
 ·obtain rfl:_=x:=Option.some.inj N;obtain rfl:_=u:=Option.some.inj hu;exact qa P
 ·cases N
set_option maxRecDepth 100000 in
set_option maxHeartbeats 1000000 in
theorem q9t(w:World):Calls Tryz.prog 79 #[.int .i64 9] w (qgj [.ch,.number,.id] w):=by
 go_enter Tryz.func79,Tryz.ntmps79;go_wp2_with fail;refine(qah 8 103 w).mono ?_;rintro e w1 ⟨_,rfl,q,L,N,rfl,Z,a7,g,l⟩;go_wp2_with fail;refine(qah 8 104 w1).mono ?_;rintro e w2 ⟨_,rfl,K,p2,q2,rfl,a4,a8,m,o⟩;have b4:=q.size;replace g:=K.cell g (fun h=>h);replace l:=K.cell l (fun h=>h);replace q:=q.trans K;clear K;go_wp2_with fail;refine(qav 4 106 w2).mono ?_;rintro e w3 ⟨_,rfl,I,p3,q3,rfl,a5,a9,z,C⟩;have b5:=q.size;replace g:=I.cell g (fun h=>h);replace l:=I.cell l (fun h=>h);replace m:=I.cell m (fun h=>h);replace o:=I.cell o (fun h=>h);replace q:=q.trans I;clear I;go_wp2_with fail;refine(qav 2 107 w3).mono ?_;rintro e P ⟨_,rfl,D,M,O,rfl,a6,b3,E,F⟩;have b6:=q.size;replace g:=D.cell g (fun h=>h);replace l:=D.cell l (fun h=>h);replace m:=D.cell m (fun h=>h);replace o:=D.cell o (fun h=>h);replace z:=D.cell z (fun h=>h);replace C:=D.cell C (fun h=>h);replace q:=q.trans D;have b7:=q.size;clear D;go_wp2_with fail;have H:qu P (P.alloc (.cells #[(.func (.func 122) #[] #[.pointer (some ⟨M,0,none⟩),.pointer (some ⟨O,0,none⟩)]),(.func (.func 119) #[] #[.pointer (some ⟨L,0,none⟩),.pointer (some ⟨N,0,none⟩)])] 174)):=(Upd.refl _ _).alloc _;refine(qhp P.heap.size [(.func (.func 122) #[] #[.pointer (some ⟨M,0,none⟩),.pointer (some ⟨O,0,none⟩)]),(.func (.func 119) #[] #[.pointer (some ⟨L,0,none⟩),.pointer (some ⟨N,0,none⟩)])] _ (qi P (.cells #[(.func (.func 122) #[] #[.pointer (some ⟨M,0,none⟩),.pointer (some ⟨O,0,none⟩)]),(.func (.func 119) #[] #[.pointer (some ⟨L,0,none⟩),.pointer (some ⟨N,0,none⟩)])] 174)) ?one (by show 2≤100;decide)).mono ?_
 case one=>intro v hv;simp only[List.mem_cons,List.not_mem_nil,or_false] at hv;rcases hv with rfl | rfl<;>rfl
 rintro e w5 ⟨v,c,rfl,V,U,T⟩;have b8:=H.size;have t:=H.trans V;have Y:=qb (qgn U (show w.heap.size≤_ by omega));have W:=qb (T.later (show w.heap.size≤_ by omega));replace g:=t.cell g (fun h=>h);replace l:=t.cell l (fun h=>h);replace m:=t.cell m (fun h=>h);replace o:=t.cell o (fun h=>h);replace z:=t.cell z (fun h=>h);replace C:=t.cell C (fun h=>h);replace E:=t.cell E (fun h=>h);replace F:=t.cell F (fun h=>h);have X:=qb (q.trans t);clear q V t H U T;go_wp2_with fail;go_ret2;refine⟨v,rfl,qa X,⟨_,qa Y,rfl,?_⟩⟩;intro i x u J R;rcases i with _ | _ | _ | _
 ·obtain rfl:_=x:=Option.some.inj J;obtain rfl:_=u:=Option.some.inj R;exact qa W
 ·obtain rfl:_=x:=Option.some.inj J;obtain rfl:_=u:=Option.some.inj R;exact⟨M,O,rfl,by omega,by omega,E,F⟩
 ·obtain rfl:_=x:=Option.some.inj J;obtain rfl:_=u:=Option.some.inj R;exact⟨L,N,rfl,by omega,by omega,g,l⟩
 ·cases J
set_option maxRecDepth 100000 in
set_option maxHeartbeats 1000000 in
theorem qyp(k:Int)(E:fieldsOf k=none)(w:World):Calls Tryz.prog 79 #[.int .i64 k] w (qbr (.tuple #[qcd,.bool false]) w):=by
 have D:¬k=1∧¬k=2∧¬k=3∧¬k=4∧¬k=5∧¬k=6∧¬k=7∧¬k=8∧¬k=9:=by
  refine⟨?_,?_,?_,?_,?_,?_,?_,?_,?_⟩<;>(rintro rfl;cases E)
 obtain⟨Y,Z,e3,e4,e5,e6,e7,e8,e9⟩:=D;clear E;go_enter Tryz.func79,Tryz.ntmps79;go_wp2_with fail;refine(qah 8 103 w).mono ?_;rintro e w1 ⟨_,rfl,l,p1,q1,rfl,I,M,g,i⟩;go_wp2_with fail;refine(qah 8 104 w1).mono ?_;rintro e W ⟨_,rfl,C,p2,q2,rfl,J,N,m,o⟩;have R:=l.size;replace g:=C.cell g (fun h=>h);replace i:=C.cell i (fun h=>h);replace l:=l.trans C;clear C;go_wp2_with fail;refine(qav 4 106 W).mono ?_;rintro e X ⟨_,rfl,t,p3,q3,rfl,K,O,v,z⟩;have T:=l.size;replace g:=t.cell g (fun h=>h);replace i:=t.cell i (fun h=>h);replace m:=t.cell m (fun h=>h);replace o:=t.cell o (fun h=>h);replace l:=l.trans t;clear t;go_wp2_with fail;refine(qav 2 107 X).mono ?_;rintro e w4 ⟨_,rfl,q,p4,q4,rfl,L,P,F,H⟩;have U:=l.size;replace g:=q.cell g (fun h=>h);replace i:=q.cell i (fun h=>h);replace m:=q.cell m (fun h=>h);replace o:=q.cell o (fun h=>h);replace v:=q.cell v (fun h=>h);replace z:=q.cell z (fun h=>h);replace l:=l.trans q;have V:=l.size;clear q;go_wp2_with fail;go_ret2;exact⟨rfl,l⟩
theorem q1p(k:Int)(xs:List Fld)(g:fieldsOf k=some xs)(w:World):Calls Tryz.prog 79 #[.int .i64 k] w (qgj xs w):=by
 unfold fieldsOf at g;by_cases i:k=1
 ·subst i;obtain rfl:_=xs:=Option.some.inj g;exact q9l w
 rw[if_neg i] at g;by_cases l:k=2
 ·subst l;obtain rfl:_=xs:=Option.some.inj g;exact q9m w
 rw[if_neg l] at g;by_cases m:k=3
 ·subst m;obtain rfl:_=xs:=Option.some.inj g;exact q9n w
 rw[if_neg m] at g;by_cases o:k=4
 ·subst o;obtain rfl:_=xs:=Option.some.inj g;exact q9o w
 rw[if_neg o] at g;by_cases q:k=5
 ·subst q;obtain rfl:_=xs:=Option.some.inj g;exact q9p w
 rw[if_neg q] at g;by_cases t:k=6
 ·subst t;obtain rfl:_=xs:=Option.some.inj g;exact q9q w
 rw[if_neg t] at g;by_cases v:k=7
 ·subst v;obtain rfl:_=xs:=Option.some.inj g;exact q9r w
 rw[if_neg v] at g;by_cases z:k=8
 ·subst z;obtain rfl:_=xs:=Option.some.inj g;exact q9s w
 rw[if_neg z] at g;by_cases C:k=9
 ·subst C;obtain rfl:_=xs:=Option.some.inj g;exact q9t w
 rw[if_neg C] at g;cases g
end Go.Proofs.YthnohmjbbeahmaaGreatDoor
