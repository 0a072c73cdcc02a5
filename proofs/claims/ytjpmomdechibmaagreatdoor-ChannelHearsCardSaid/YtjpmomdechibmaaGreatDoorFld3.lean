/-
  wire.fields (printed by tools/mk_fld.py).
-/
import Derived.Test.YtjpmomdechibmaaGreatDoorMcb
set_option linter.unusedVariables false
set_option linter.unusedSimpArgs false
namespace Go.Proofs.YtjpmomdechibmaaGreatDoor
open Go.RowKit
def fieldsOf(kind:Int):Option (List Fld) :=
 if kind=1 then some [.ch,.amount] else if kind=2 then some [.ch] else if kind=3 then some [.ch,.id,.amount,.hash,.expiry] else if kind=4 then some [.ch,.id,.hash] else if kind=5 then some [.ch,.id,.number]
 else if kind=6 then some [.ch,.number,.hash] else if kind=7 then some [.ch,.number,.hash] else if kind=8 then some [.ch] else if kind=9 then some [.ch,.number,.id] else none
theorem qfl{w:World}{a b:Nat}{e:TypeId}{size:Nat}{v:Value}{n:Nat}{xs:List Value}(h:w.ownsRow b e size v n xs)(ab:a≤b):w.ownsRow a e size v n xs:=by
 refine⟨h.1,?_⟩
 rcases h.2 with h | ⟨g,cap,f,i,j,r⟩
 ·exact .inl h
 ·exact .inr ⟨g,cap,f,i,by omega,r⟩
def qfg(xs:List Fld)(w:World)(e:Ending)(w':World):Prop:=∃v,e = .returned (.tuple #[v,.bool true])∧qx w w'∧FldsO w.heap.size w' v xs
set_option maxRecDepth 100000 in
set_option maxHeartbeats 1000000 in
theorem q5u(w:World):Calls Tryz.prog 64 #[.int .i64 1] w (qfg [.ch,.amount] w):=by
 go_enter Tryz.func64,Tryz.ntmps64
 go_wp2_with fail
 refine(z6 8 96 w).mono ?_
 rintro e w1 ⟨_,rfl,m,p1,q1,rfl,V,Z,f,g⟩
 go_wp2_with fail
 refine(z6 8 97 w1).mono ?_
 rintro e w2 ⟨_,rfl,F,H,I,rfl,W,a4,j,l⟩
 have a7:=m.size
 replace f:=F.cell f (fun h=>h)
 replace g:=F.cell g (fun h=>h)
 replace m:=m.trans F
 clear F
 go_wp2_with fail
 refine(qah 4 99 w2).mono ?_
 rintro e w3 ⟨_,rfl,C,p3,q3,rfl,X,a5,q,t⟩
 have a8:=m.size
 replace f:=C.cell f (fun h=>h)
 replace g:=C.cell g (fun h=>h)
 replace j:=C.cell j (fun h=>h)
 replace l:=C.cell l (fun h=>h)
 replace m:=m.trans C
 clear C
 go_wp2_with fail
 refine(qah 2 100 w3).mono ?_
 rintro e J ⟨_,rfl,y,p4,q4,rfl,Y,a6,D,E⟩
 have a9:=m.size
 replace f:=y.cell f (fun h=>h)
 replace g:=y.cell g (fun h=>h)
 replace j:=y.cell j (fun h=>h)
 replace l:=y.cell l (fun h=>h)
 replace q:=y.cell q (fun h=>h)
 replace t:=y.cell t (fun h=>h)
 replace m:=m.trans y
 have b3:=m.size
 clear y
 go_wp2_with fail
 have z:qx J (J.alloc (.cells #[(.func (.func 115) #[] #[.pointer (some ⟨H,0,none⟩),.pointer (some ⟨I,0,none⟩)])] 165)):=(Upd.refl _ _).alloc _
 refine(qgs J.heap.size [(.func (.func 115) #[] #[.pointer (some ⟨H,0,none⟩),.pointer (some ⟨I,0,none⟩)])] _ (qi J (.cells #[(.func (.func 115) #[] #[.pointer (some ⟨H,0,none⟩),.pointer (some ⟨I,0,none⟩)])] 165)) ?one (by show 1≤100;decide)).mono ?_
 case one=>intro v O;simp only[List.mem_cons,List.not_mem_nil,or_false] at O;rcases O with rfl<;>rfl
 rintro e w5 ⟨v,c,rfl,P,M,L⟩
 have b4:=z.size
 have o:=z.trans P
 have U:=qb (qfl M (show w.heap.size≤_ by omega))
 have R:=qb (L.later (show w.heap.size≤_ by omega))
 replace f:=o.cell f (fun h=>h)
 replace g:=o.cell g (fun h=>h)
 replace j:=o.cell j (fun h=>h)
 replace l:=o.cell l (fun h=>h)
 replace q:=o.cell q (fun h=>h)
 replace t:=o.cell t (fun h=>h)
 replace D:=o.cell D (fun h=>h)
 replace E:=o.cell E (fun h=>h)
 have T:=qb (m.trans o)
 clear m P o z M L
 go_wp2_with fail
 go_ret2
 refine⟨v,rfl,qa T,⟨_,qa U,rfl,?_⟩⟩
 intro i x u K N
 rcases i with _ | _ | _
 ·obtain rfl:_=x:=Option.some.inj K
  obtain rfl:_=u:=Option.some.inj N
  exact qa R
 ·obtain rfl:_=x:=Option.some.inj K
  obtain rfl:_=u:=Option.some.inj N
  exact⟨H,I,rfl,by omega,by omega,j,l⟩
 ·cases K
set_option maxRecDepth 100000 in
set_option maxHeartbeats 1000000 in
theorem q5v(w:World):Calls Tryz.prog 64 #[.int .i64 2] w (qfg [.ch] w):=by
 go_enter Tryz.func64,Tryz.ntmps64
 go_wp2_with fail
 refine(z6 8 96 w).mono ?_
 rintro e w1 ⟨_,rfl,m,p1,q1,rfl,P,V,f,g⟩
 go_wp2_with fail
 refine(z6 8 97 w1).mono ?_
 rintro e w2 ⟨_,rfl,F,p2,q2,rfl,R,W,j,l⟩
 have a4:=m.size
 replace f:=F.cell f (fun h=>h)
 replace g:=F.cell g (fun h=>h)
 replace m:=m.trans F
 clear F
 go_wp2_with fail
 refine(qah 4 99 w2).mono ?_
 rintro e w3 ⟨_,rfl,C,p3,q3,rfl,T,X,q,t⟩
 have a5:=m.size
 replace f:=C.cell f (fun h=>h)
 replace g:=C.cell g (fun h=>h)
 replace j:=C.cell j (fun h=>h)
 replace l:=C.cell l (fun h=>h)
 replace m:=m.trans C
 clear C
 go_wp2_with fail
 refine(qah 2 100 w3).mono ?_
 rintro e H ⟨_,rfl,y,p4,q4,rfl,U,Y,D,E⟩
 have a6:=m.size
 replace f:=y.cell f (fun h=>h)
 replace g:=y.cell g (fun h=>h)
 replace j:=y.cell j (fun h=>h)
 replace l:=y.cell l (fun h=>h)
 replace q:=y.cell q (fun h=>h)
 replace t:=y.cell t (fun h=>h)
 replace m:=m.trans y
 have a7:=m.size
 clear y
 go_wp2_with fail
 have z:qx H H:=Upd.refl _ _
 refine(qr7 H).mono ?_
 rintro e w5 ⟨v,c,rfl,L,J,I⟩
 have a8:=z.size
 have o:=z.trans L
 have O:=qb (qfl J (show w.heap.size≤_ by omega))
 have M:=qb (I.later (show w.heap.size≤_ by omega))
 replace f:=o.cell f (fun h=>h)
 replace g:=o.cell g (fun h=>h)
 replace j:=o.cell j (fun h=>h)
 replace l:=o.cell l (fun h=>h)
 replace q:=o.cell q (fun h=>h)
 replace t:=o.cell t (fun h=>h)
 replace D:=o.cell D (fun h=>h)
 replace E:=o.cell E (fun h=>h)
 have N:=qb (m.trans o)
 clear m L o z J I
 go_wp2_with fail
 go_ret2
 refine⟨v,rfl,qa N,⟨_,qa O,rfl,?_⟩⟩
 intro i x u K Z
 rcases i with _ | _
 ·obtain rfl:_=x:=Option.some.inj K
  obtain rfl:_=u:=Option.some.inj Z
  exact qa M
 ·cases K
set_option maxRecDepth 100000 in
set_option maxHeartbeats 1000000 in
theorem q5w(w:World):Calls Tryz.prog 64 #[.int .i64 3] w (qfg [.ch,.id,.amount,.hash,.expiry] w):=by
 go_enter Tryz.func64,Tryz.ntmps64
 go_wp2_with fail
 refine(z6 8 96 w).mono ?_
 rintro e w1 ⟨_,rfl,m,J,M,rfl,Z,a7,f,g⟩
 go_wp2_with fail
 refine(z6 8 97 w1).mono ?_
 rintro e w2 ⟨_,rfl,I,K,N,rfl,a4,a8,j,l⟩
 have b4:=m.size
 replace f:=I.cell f (fun h=>h)
 replace g:=I.cell g (fun h=>h)
 replace m:=m.trans I
 clear I
 go_wp2_with fail
 refine(qah 4 99 w2).mono ?_
 rintro e w3 ⟨_,rfl,D,L,O,rfl,a5,a9,o,q⟩
 have b5:=m.size
 replace f:=D.cell f (fun h=>h)
 replace g:=D.cell g (fun h=>h)
 replace j:=D.cell j (fun h=>h)
 replace l:=D.cell l (fun h=>h)
 replace m:=m.trans D
 clear D
 go_wp2_with fail
 refine(qah 2 100 w3).mono ?_
 rintro e P ⟨_,rfl,y,p4,q4,rfl,a6,b3,E,F⟩
 have b6:=m.size
 replace f:=y.cell f (fun h=>h)
 replace g:=y.cell g (fun h=>h)
 replace j:=y.cell j (fun h=>h)
 replace l:=y.cell l (fun h=>h)
 replace o:=y.cell o (fun h=>h)
 replace q:=y.cell q (fun h=>h)
 replace m:=m.trans y
 have b7:=m.size
 clear y
 go_wp2_with fail
 have z:qx P (P.alloc (.cells #[(.func (.func 115) #[] #[.pointer (some ⟨J,0,none⟩),.pointer (some ⟨M,0,none⟩)]),(.func (.func 115) #[] #[.pointer (some ⟨K,0,none⟩),.pointer (some ⟨N,0,none⟩)]),(.func (.func 102) #[] #[]),(.func (.func 118) #[] #[.pointer (some ⟨L,0,none⟩),.pointer (some ⟨O,0,none⟩)])] 165)):=(Upd.refl _ _).alloc _
 refine(qgs P.heap.size [(.func (.func 115) #[] #[.pointer (some ⟨J,0,none⟩),.pointer (some ⟨M,0,none⟩)]),(.func (.func 115) #[] #[.pointer (some ⟨K,0,none⟩),.pointer (some ⟨N,0,none⟩)]),(.func (.func 102) #[] #[]),(.func (.func 118) #[] #[.pointer (some ⟨L,0,none⟩),.pointer (some ⟨O,0,none⟩)])] _ (qi P (.cells #[(.func (.func 115) #[] #[.pointer (some ⟨J,0,none⟩),.pointer (some ⟨M,0,none⟩)]),(.func (.func 115) #[] #[.pointer (some ⟨K,0,none⟩),.pointer (some ⟨N,0,none⟩)]),(.func (.func 102) #[] #[]),(.func (.func 118) #[] #[.pointer (some ⟨L,0,none⟩),.pointer (some ⟨O,0,none⟩)])] 165)) ?one (by show 4≤100;decide)).mono ?_
 case one=>intro v U;simp only[List.mem_cons,List.not_mem_nil,or_false] at U;rcases U with rfl | rfl | rfl | rfl<;>rfl
 rintro e w5 ⟨v,c,rfl,V,T,R⟩
 have b8:=z.size
 have t:=z.trans V
 have Y:=qb (qfl T (show w.heap.size≤_ by omega))
 have W:=qb (R.later (show w.heap.size≤_ by omega))
 replace f:=t.cell f (fun h=>h)
 replace g:=t.cell g (fun h=>h)
 replace j:=t.cell j (fun h=>h)
 replace l:=t.cell l (fun h=>h)
 replace o:=t.cell o (fun h=>h)
 replace q:=t.cell q (fun h=>h)
 replace E:=t.cell E (fun h=>h)
 replace F:=t.cell F (fun h=>h)
 have X:=qb (m.trans t)
 clear m V t z T R
 go_wp2_with fail
 go_ret2
 refine⟨v,rfl,qa X,⟨_,qa Y,rfl,?_⟩⟩
 intro i x u C H
 rcases i with _ | _ | _ | _ | _ | _
 ·obtain rfl:_=x:=Option.some.inj C
  obtain rfl:_=u:=Option.some.inj H
  exact qa W
 ·obtain rfl:_=x:=Option.some.inj C
  obtain rfl:_=u:=Option.some.inj H
  exact⟨J,M,rfl,by omega,by omega,f,g⟩
 ·obtain rfl:_=x:=Option.some.inj C
  obtain rfl:_=u:=Option.some.inj H
  exact⟨K,N,rfl,by omega,by omega,j,l⟩
 ·obtain rfl:_=x:=Option.some.inj C
  obtain rfl:_=u:=Option.some.inj H
  exact rfl
 ·obtain rfl:_=x:=Option.some.inj C
  obtain rfl:_=u:=Option.some.inj H
  exact⟨L,O,rfl,by omega,by omega,o,q⟩
 ·cases C
set_option maxRecDepth 100000 in
set_option maxHeartbeats 1000000 in
theorem q5x(w:World):Calls Tryz.prog 64 #[.int .i64 4] w (qfg [.ch,.id,.hash] w):=by
 go_enter Tryz.func64,Tryz.ntmps64
 go_wp2_with fail
 refine(z6 8 96 w).mono ?_
 rintro e w1 ⟨_,rfl,m,I,J,rfl,V,Z,f,g⟩
 go_wp2_with fail
 refine(z6 8 97 w1).mono ?_
 rintro e w2 ⟨_,rfl,H,p2,q2,rfl,W,a4,j,l⟩
 have a7:=m.size
 replace f:=H.cell f (fun h=>h)
 replace g:=H.cell g (fun h=>h)
 replace m:=m.trans H
 clear H
 go_wp2_with fail
 refine(qah 4 99 w2).mono ?_
 rintro e w3 ⟨_,rfl,C,p3,q3,rfl,X,a5,q,t⟩
 have a8:=m.size
 replace f:=C.cell f (fun h=>h)
 replace g:=C.cell g (fun h=>h)
 replace j:=C.cell j (fun h=>h)
 replace l:=C.cell l (fun h=>h)
 replace m:=m.trans C
 clear C
 go_wp2_with fail
 refine(qah 2 100 w3).mono ?_
 rintro e K ⟨_,rfl,y,p4,q4,rfl,Y,a6,D,E⟩
 have a9:=m.size
 replace f:=y.cell f (fun h=>h)
 replace g:=y.cell g (fun h=>h)
 replace j:=y.cell j (fun h=>h)
 replace l:=y.cell l (fun h=>h)
 replace q:=y.cell q (fun h=>h)
 replace t:=y.cell t (fun h=>h)
 replace m:=m.trans y
 have b3:=m.size
 clear y
 go_wp2_with fail
 have z:qx K (K.alloc (.cells #[(.func (.func 115) #[] #[.pointer (some ⟨I,0,none⟩),.pointer (some ⟨J,0,none⟩)]),(.func (.func 102) #[] #[])] 165)):=(Upd.refl _ _).alloc _
 refine(qgs K.heap.size [(.func (.func 115) #[] #[.pointer (some ⟨I,0,none⟩),.pointer (some ⟨J,0,none⟩)]),(.func (.func 102) #[] #[])] _ (qi K (.cells #[(.func (.func 115) #[] #[.pointer (some ⟨I,0,none⟩),.pointer (some ⟨J,0,none⟩)]),(.func (.func 102) #[] #[])] 165)) ?one (by show 2≤100;decide)).mono ?_
 case one=>intro v O;simp only[List.mem_cons,List.not_mem_nil,or_false] at O;rcases O with rfl | rfl<;>rfl
 rintro e w5 ⟨v,c,rfl,P,N,M⟩
 have b4:=z.size
 have o:=z.trans P
 have U:=qb (qfl N (show w.heap.size≤_ by omega))
 have R:=qb (M.later (show w.heap.size≤_ by omega))
 replace f:=o.cell f (fun h=>h)
 replace g:=o.cell g (fun h=>h)
 replace j:=o.cell j (fun h=>h)
 replace l:=o.cell l (fun h=>h)
 replace q:=o.cell q (fun h=>h)
 replace t:=o.cell t (fun h=>h)
 replace D:=o.cell D (fun h=>h)
 replace E:=o.cell E (fun h=>h)
 have T:=qb (m.trans o)
 clear m P o z N M
 go_wp2_with fail
 go_ret2
 refine⟨v,rfl,qa T,⟨_,qa U,rfl,?_⟩⟩
 intro i x u F L
 rcases i with _ | _ | _ | _
 ·obtain rfl:_=x:=Option.some.inj F
  obtain rfl:_=u:=Option.some.inj L
  exact qa R
 ·obtain rfl:_=x:=Option.some.inj F
  obtain rfl:_=u:=Option.some.inj L
  exact⟨I,J,rfl,by omega,by omega,f,g⟩
 ·obtain rfl:_=x:=Option.some.inj F
  obtain rfl:_=u:=Option.some.inj L
  exact rfl
 ·cases F
set_option maxRecDepth 100000 in
set_option maxHeartbeats 1000000 in
theorem q5y(w:World):Calls Tryz.prog 64 #[.int .i64 5] w (qfg [.ch,.id,.number] w):=by
 go_enter Tryz.func64,Tryz.ntmps64
 go_wp2_with fail
 refine(z6 8 96 w).mono ?_
 rintro e w1 ⟨_,rfl,m,I,K,rfl,X,a5,f,g⟩
 go_wp2_with fail
 refine(z6 8 97 w1).mono ?_
 rintro e w2 ⟨_,rfl,H,p2,q2,rfl,Y,a6,j,l⟩
 have a9:=m.size
 replace f:=H.cell f (fun h=>h)
 replace g:=H.cell g (fun h=>h)
 replace m:=m.trans H
 clear H
 go_wp2_with fail
 refine(qah 4 99 w2).mono ?_
 rintro e w3 ⟨_,rfl,E,p3,q3,rfl,Z,a7,q,t⟩
 have b3:=m.size
 replace f:=E.cell f (fun h=>h)
 replace g:=E.cell g (fun h=>h)
 replace j:=E.cell j (fun h=>h)
 replace l:=E.cell l (fun h=>h)
 replace m:=m.trans E
 clear E
 go_wp2_with fail
 refine(qah 2 100 w3).mono ?_
 rintro e M ⟨_,rfl,y,J,L,rfl,a4,a8,z,C⟩
 have b4:=m.size
 replace f:=y.cell f (fun h=>h)
 replace g:=y.cell g (fun h=>h)
 replace j:=y.cell j (fun h=>h)
 replace l:=y.cell l (fun h=>h)
 replace q:=y.cell q (fun h=>h)
 replace t:=y.cell t (fun h=>h)
 replace m:=m.trans y
 have b5:=m.size
 clear y
 go_wp2_with fail
 have D:qx M (M.alloc (.cells #[(.func (.func 115) #[] #[.pointer (some ⟨I,0,none⟩),.pointer (some ⟨K,0,none⟩)]),(.func (.func 118) #[] #[.pointer (some ⟨J,0,none⟩),.pointer (some ⟨L,0,none⟩)])] 165)):=(Upd.refl _ _).alloc _
 refine(qgs M.heap.size [(.func (.func 115) #[] #[.pointer (some ⟨I,0,none⟩),.pointer (some ⟨K,0,none⟩)]),(.func (.func 118) #[] #[.pointer (some ⟨J,0,none⟩),.pointer (some ⟨L,0,none⟩)])] _ (qi M (.cells #[(.func (.func 115) #[] #[.pointer (some ⟨I,0,none⟩),.pointer (some ⟨K,0,none⟩)]),(.func (.func 118) #[] #[.pointer (some ⟨J,0,none⟩),.pointer (some ⟨L,0,none⟩)])] 165)) ?one (by show 2≤100;decide)).mono ?_
 case one=>intro v R;simp only[List.mem_cons,List.not_mem_nil,or_false] at R;rcases R with rfl | rfl<;>rfl
 rintro e w5 ⟨v,c,rfl,T,P,O⟩
 have b6:=D.size
 have o:=D.trans T
 have W:=qb (qfl P (show w.heap.size≤_ by omega))
 have U:=qb (O.later (show w.heap.size≤_ by omega))
 replace f:=o.cell f (fun h=>h)
 replace g:=o.cell g (fun h=>h)
 replace j:=o.cell j (fun h=>h)
 replace l:=o.cell l (fun h=>h)
 replace q:=o.cell q (fun h=>h)
 replace t:=o.cell t (fun h=>h)
 replace z:=o.cell z (fun h=>h)
 replace C:=o.cell C (fun h=>h)
 have V:=qb (m.trans o)
 clear m T o D P O
 go_wp2_with fail
 go_ret2
 refine⟨v,rfl,qa V,⟨_,qa W,rfl,?_⟩⟩
 intro i x u F N
 rcases i with _ | _ | _ | _
 ·obtain rfl:_=x:=Option.some.inj F
  obtain rfl:_=u:=Option.some.inj N
  exact qa U
 ·obtain rfl:_=x:=Option.some.inj F
  obtain rfl:_=u:=Option.some.inj N
  exact⟨I,K,rfl,by omega,by omega,f,g⟩
 ·obtain rfl:_=x:=Option.some.inj F
  obtain rfl:_=u:=Option.some.inj N
  exact⟨J,L,rfl,by omega,by omega,z,C⟩
 ·cases F
set_option maxRecDepth 100000 in
set_option maxHeartbeats 1000000 in
theorem q5z(w:World):Calls Tryz.prog 64 #[.int .i64 6] w (qfg [.ch,.number,.hash] w):=by
 go_enter Tryz.func64,Tryz.ntmps64
 go_wp2_with fail
 refine(z6 8 96 w).mono ?_
 rintro e w1 ⟨_,rfl,m,p1,q1,rfl,V,Z,f,g⟩
 go_wp2_with fail
 refine(z6 8 97 w1).mono ?_
 rintro e w2 ⟨_,rfl,H,p2,q2,rfl,W,a4,j,l⟩
 have a7:=m.size
 replace f:=H.cell f (fun h=>h)
 replace g:=H.cell g (fun h=>h)
 replace m:=m.trans H
 clear H
 go_wp2_with fail
 refine(qah 4 99 w2).mono ?_
 rintro e w3 ⟨_,rfl,E,p3,q3,rfl,X,a5,q,t⟩
 have a8:=m.size
 replace f:=E.cell f (fun h=>h)
 replace g:=E.cell g (fun h=>h)
 replace j:=E.cell j (fun h=>h)
 replace l:=E.cell l (fun h=>h)
 replace m:=m.trans E
 clear E
 go_wp2_with fail
 refine(qah 2 100 w3).mono ?_
 rintro e K ⟨_,rfl,y,I,J,rfl,Y,a6,z,C⟩
 have a9:=m.size
 replace f:=y.cell f (fun h=>h)
 replace g:=y.cell g (fun h=>h)
 replace j:=y.cell j (fun h=>h)
 replace l:=y.cell l (fun h=>h)
 replace q:=y.cell q (fun h=>h)
 replace t:=y.cell t (fun h=>h)
 replace m:=m.trans y
 have b3:=m.size
 clear y
 go_wp2_with fail
 have D:qx K (K.alloc (.cells #[(.func (.func 118) #[] #[.pointer (some ⟨I,0,none⟩),.pointer (some ⟨J,0,none⟩)]),(.func (.func 102) #[] #[])] 165)):=(Upd.refl _ _).alloc _
 refine(qgs K.heap.size [(.func (.func 118) #[] #[.pointer (some ⟨I,0,none⟩),.pointer (some ⟨J,0,none⟩)]),(.func (.func 102) #[] #[])] _ (qi K (.cells #[(.func (.func 118) #[] #[.pointer (some ⟨I,0,none⟩),.pointer (some ⟨J,0,none⟩)]),(.func (.func 102) #[] #[])] 165)) ?one (by show 2≤100;decide)).mono ?_
 case one=>intro v O;simp only[List.mem_cons,List.not_mem_nil,or_false] at O;rcases O with rfl | rfl<;>rfl
 rintro e w5 ⟨v,c,rfl,P,N,M⟩
 have b4:=D.size
 have o:=D.trans P
 have U:=qb (qfl N (show w.heap.size≤_ by omega))
 have R:=qb (M.later (show w.heap.size≤_ by omega))
 replace f:=o.cell f (fun h=>h)
 replace g:=o.cell g (fun h=>h)
 replace j:=o.cell j (fun h=>h)
 replace l:=o.cell l (fun h=>h)
 replace q:=o.cell q (fun h=>h)
 replace t:=o.cell t (fun h=>h)
 replace z:=o.cell z (fun h=>h)
 replace C:=o.cell C (fun h=>h)
 have T:=qb (m.trans o)
 clear m P o D N M
 go_wp2_with fail
 go_ret2
 refine⟨v,rfl,qa T,⟨_,qa U,rfl,?_⟩⟩
 intro i x u F L
 rcases i with _ | _ | _ | _
 ·obtain rfl:_=x:=Option.some.inj F
  obtain rfl:_=u:=Option.some.inj L
  exact qa R
 ·obtain rfl:_=x:=Option.some.inj F
  obtain rfl:_=u:=Option.some.inj L
  exact⟨I,J,rfl,by omega,by omega,z,C⟩
 ·obtain rfl:_=x:=Option.some.inj F
  obtain rfl:_=u:=Option.some.inj L
  exact rfl
 ·cases F
set_option maxRecDepth 100000 in
set_option maxHeartbeats 1000000 in
theorem q50(w:World):Calls Tryz.prog 64 #[.int .i64 7] w (qfg [.ch,.number,.hash] w):=by
 go_enter Tryz.func64,Tryz.ntmps64
 go_wp2_with fail
 refine(z6 8 96 w).mono ?_
 rintro e w1 ⟨_,rfl,m,p1,q1,rfl,V,Z,f,g⟩
 go_wp2_with fail
 refine(z6 8 97 w1).mono ?_
 rintro e w2 ⟨_,rfl,H,p2,q2,rfl,W,a4,j,l⟩
 have a7:=m.size
 replace f:=H.cell f (fun h=>h)
 replace g:=H.cell g (fun h=>h)
 replace m:=m.trans H
 clear H
 go_wp2_with fail
 refine(qah 4 99 w2).mono ?_
 rintro e w3 ⟨_,rfl,E,p3,q3,rfl,X,a5,q,t⟩
 have a8:=m.size
 replace f:=E.cell f (fun h=>h)
 replace g:=E.cell g (fun h=>h)
 replace j:=E.cell j (fun h=>h)
 replace l:=E.cell l (fun h=>h)
 replace m:=m.trans E
 clear E
 go_wp2_with fail
 refine(qah 2 100 w3).mono ?_
 rintro e K ⟨_,rfl,y,I,J,rfl,Y,a6,z,C⟩
 have a9:=m.size
 replace f:=y.cell f (fun h=>h)
 replace g:=y.cell g (fun h=>h)
 replace j:=y.cell j (fun h=>h)
 replace l:=y.cell l (fun h=>h)
 replace q:=y.cell q (fun h=>h)
 replace t:=y.cell t (fun h=>h)
 replace m:=m.trans y
 have b3:=m.size
 clear y
 go_wp2_with fail
 have D:qx K (K.alloc (.cells #[(.func (.func 118) #[] #[.pointer (some ⟨I,0,none⟩),.pointer (some ⟨J,0,none⟩)]),(.func (.func 102) #[] #[])] 165)):=(Upd.refl _ _).alloc _
 refine(qgs K.heap.size [(.func (.func 118) #[] #[.pointer (some ⟨I,0,none⟩),.pointer (some ⟨J,0,none⟩)]),(.func (.func 102) #[] #[])] _ (qi K (.cells #[(.func (.func 118) #[] #[.pointer (some ⟨I,0,none⟩),.pointer (some ⟨J,0,none⟩)]),(.func (.func 102) #[] #[])] 165)) ?one (by show 2≤100;decide)).mono ?_
 case one=>intro v O;simp only[List.mem_cons,List.not_mem_nil,or_false] at O;rcases O with rfl | rfl<;>rfl
 rintro e w5 ⟨v,c,rfl,P,N,M⟩
 have b4:=D.size
 have o:=D.trans P
 have U:=qb (qfl N (show w.heap.size≤_ by omega))
 have R:=qb (M.later (show w.heap.size≤_ by omega))
 replace f:=o.cell f (fun h=>h)
 replace g:=o.cell g (fun h=>h)
 replace j:=o.cell j (fun h=>h)
 replace l:=o.cell l (fun h=>h)
 replace q:=o.cell q (fun h=>h)
 replace t:=o.cell t (fun h=>h)
 replace z:=o.cell z (fun h=>h)
 replace C:=o.cell C (fun h=>h)
 have T:=qb (m.trans o)
 clear m P o D N M
 go_wp2_with fail
 go_ret2
 refine⟨v,rfl,qa T,⟨_,qa U,rfl,?_⟩⟩
 intro i x u F L
 rcases i with _ | _ | _ | _
 ·obtain rfl:_=x:=Option.some.inj F
  obtain rfl:_=u:=Option.some.inj L
  exact qa R
 ·obtain rfl:_=x:=Option.some.inj F
  obtain rfl:_=u:=Option.some.inj L
  exact⟨I,J,rfl,by omega,by omega,z,C⟩
 ·obtain rfl:_=x:=Option.some.inj F
  obtain rfl:_=u:=Option.some.inj L
  exact rfl
 ·cases F
set_option maxRecDepth 100000 in
set_option maxHeartbeats 1000000 in
theorem q51(w:World):Calls Tryz.prog 64 #[.int .i64 8] w (qfg [.ch] w):=by
 go_enter Tryz.func64,Tryz.ntmps64
 go_wp2_with fail
 refine(z6 8 96 w).mono ?_
 rintro e w1 ⟨_,rfl,m,p1,q1,rfl,P,V,f,g⟩
 go_wp2_with fail
 refine(z6 8 97 w1).mono ?_
 rintro e w2 ⟨_,rfl,F,p2,q2,rfl,R,W,j,l⟩
 have a4:=m.size
 replace f:=F.cell f (fun h=>h)
 replace g:=F.cell g (fun h=>h)
 replace m:=m.trans F
 clear F
 go_wp2_with fail
 refine(qah 4 99 w2).mono ?_
 rintro e w3 ⟨_,rfl,C,p3,q3,rfl,T,X,q,t⟩
 have a5:=m.size
 replace f:=C.cell f (fun h=>h)
 replace g:=C.cell g (fun h=>h)
 replace j:=C.cell j (fun h=>h)
 replace l:=C.cell l (fun h=>h)
 replace m:=m.trans C
 clear C
 go_wp2_with fail
 refine(qah 2 100 w3).mono ?_
 rintro e H ⟨_,rfl,y,p4,q4,rfl,U,Y,D,E⟩
 have a6:=m.size
 replace f:=y.cell f (fun h=>h)
 replace g:=y.cell g (fun h=>h)
 replace j:=y.cell j (fun h=>h)
 replace l:=y.cell l (fun h=>h)
 replace q:=y.cell q (fun h=>h)
 replace t:=y.cell t (fun h=>h)
 replace m:=m.trans y
 have a7:=m.size
 clear y
 go_wp2_with fail
 have z:qx H H:=Upd.refl _ _
 refine(qr7 H).mono ?_
 rintro e w5 ⟨v,c,rfl,L,J,I⟩
 have a8:=z.size
 have o:=z.trans L
 have O:=qb (qfl J (show w.heap.size≤_ by omega))
 have M:=qb (I.later (show w.heap.size≤_ by omega))
 replace f:=o.cell f (fun h=>h)
 replace g:=o.cell g (fun h=>h)
 replace j:=o.cell j (fun h=>h)
 replace l:=o.cell l (fun h=>h)
 replace q:=o.cell q (fun h=>h)
 replace t:=o.cell t (fun h=>h)
 replace D:=o.cell D (fun h=>h)
 replace E:=o.cell E (fun h=>h)
 have N:=qb (m.trans o)
 clear m L o z J I
 go_wp2_with fail
 go_ret2
 refine⟨v,rfl,qa N,⟨_,qa O,rfl,?_⟩⟩
 intro i x u K Z
 rcases i with _ | _
 ·obtain rfl:_=x:=Option.some.inj K
  obtain rfl:_=u:=Option.some.inj Z
  exact qa M
 ·cases K
set_option maxRecDepth 100000 in
set_option maxHeartbeats 1000000 in
theorem q52(w:World):Calls Tryz.prog 64 #[.int .i64 9] w (qfg [.ch,.number,.id] w):=by
 go_enter Tryz.func64,Tryz.ntmps64
 go_wp2_with fail
 refine(z6 8 96 w).mono ?_
 rintro e w1 ⟨_,rfl,m,I,K,rfl,X,a5,f,g⟩
 go_wp2_with fail
 refine(z6 8 97 w1).mono ?_
 rintro e w2 ⟨_,rfl,H,p2,q2,rfl,Y,a6,j,l⟩
 have a9:=m.size
 replace f:=H.cell f (fun h=>h)
 replace g:=H.cell g (fun h=>h)
 replace m:=m.trans H
 clear H
 go_wp2_with fail
 refine(qah 4 99 w2).mono ?_
 rintro e w3 ⟨_,rfl,E,p3,q3,rfl,Z,a7,q,t⟩
 have b3:=m.size
 replace f:=E.cell f (fun h=>h)
 replace g:=E.cell g (fun h=>h)
 replace j:=E.cell j (fun h=>h)
 replace l:=E.cell l (fun h=>h)
 replace m:=m.trans E
 clear E
 go_wp2_with fail
 refine(qah 2 100 w3).mono ?_
 rintro e M ⟨_,rfl,y,J,L,rfl,a4,a8,z,C⟩
 have b4:=m.size
 replace f:=y.cell f (fun h=>h)
 replace g:=y.cell g (fun h=>h)
 replace j:=y.cell j (fun h=>h)
 replace l:=y.cell l (fun h=>h)
 replace q:=y.cell q (fun h=>h)
 replace t:=y.cell t (fun h=>h)
 replace m:=m.trans y
 have b5:=m.size
 clear y
 go_wp2_with fail
 have D:qx M (M.alloc (.cells #[(.func (.func 118) #[] #[.pointer (some ⟨J,0,none⟩),.pointer (some ⟨L,0,none⟩)]),(.func (.func 115) #[] #[.pointer (some ⟨I,0,none⟩),.pointer (some ⟨K,0,none⟩)])] 165)):=(Upd.refl _ _).alloc _
 refine(qgs M.heap.size [(.func (.func 118) #[] #[.pointer (some ⟨J,0,none⟩),.pointer (some ⟨L,0,none⟩)]),(.func (.func 115) #[] #[.pointer (some ⟨I,0,none⟩),.pointer (some ⟨K,0,none⟩)])] _ (qi M (.cells #[(.func (.func 118) #[] #[.pointer (some ⟨J,0,none⟩),.pointer (some ⟨L,0,none⟩)]),(.func (.func 115) #[] #[.pointer (some ⟨I,0,none⟩),.pointer (some ⟨K,0,none⟩)])] 165)) ?one (by show 2≤100;decide)).mono ?_
 case one=>intro v R;simp only[List.mem_cons,List.not_mem_nil,or_false] at R;rcases R with rfl | rfl<;>rfl
 rintro e w5 ⟨v,c,rfl,T,P,O⟩
 have b6:=D.size
 have o:=D.trans T
 have W:=qb (qfl P (show w.heap.size≤_ by omega))
 have U:=qb (O.later (show w.heap.size≤_ by omega))
 replace f:=o.cell f (fun h=>h)
 replace g:=o.cell g (fun h=>h)
 replace j:=o.cell j (fun h=>h)
 replace l:=o.cell l (fun h=>h)
 replace q:=o.cell q (fun h=>h)
 replace t:=o.cell t (fun h=>h)
 replace z:=o.cell z (fun h=>h)
 replace C:=o.cell C (fun h=>h)
 have V:=qb (m.trans o)
 clear m T o D P O
 go_wp2_with fail
 go_ret2
 refine⟨v,rfl,qa V,⟨_,qa W,rfl,?_⟩⟩
 intro i x u F N
 rcases i with _ | _ | _ | _
 ·obtain rfl:_=x:=Option.some.inj F
  obtain rfl:_=u:=Option.some.inj N
  exact qa U
 ·obtain rfl:_=x:=Option.some.inj F
  obtain rfl:_=u:=Option.some.inj N
  exact⟨J,L,rfl,by omega,by omega,z,C⟩
 ·obtain rfl:_=x:=Option.some.inj F
  obtain rfl:_=u:=Option.some.inj N
  exact⟨I,K,rfl,by omega,by omega,f,g⟩
 ·cases F
set_option maxRecDepth 100000 in
set_option maxHeartbeats 1000000 in
theorem qvv(k:Int)(y:fieldsOf k=none)(w:World):Calls Tryz.prog 64 #[.int .i64 k] w (qa5 (.tuple #[qbl,.bool false]) w):=by
 have x:¬k=1∧¬k=2∧¬k=3∧¬k=4∧¬k=5∧¬k=6∧¬k=7∧¬k=8∧¬k=9:=by
  refine⟨?_,?_,?_,?_,?_,?_,?_,?_,?_⟩<;>(rintro rfl;cases y)
 obtain⟨U,V,W,X,Y,Z,e7,e8,e9⟩:=x
 clear y
 go_enter Tryz.func64,Tryz.ntmps64
 go_wp2_with fail
 refine(z6 8 96 w).mono ?_
 rintro e w1 ⟨_,rfl,i,p1,q1,rfl,D,I,f,g⟩
 go_wp2_with fail
 refine(z6 8 97 w1).mono ?_
 rintro e R ⟨_,rfl,v,p2,q2,rfl,E,J,j,l⟩
 have M:=i.size
 replace f:=v.cell f (fun h=>h)
 replace g:=v.cell g (fun h=>h)
 replace i:=i.trans v
 clear v
 go_wp2_with fail
 refine(qah 4 99 R).mono ?_
 rintro e T ⟨_,rfl,o,p3,q3,rfl,F,K,q,t⟩
 have N:=i.size
 replace f:=o.cell f (fun h=>h)
 replace g:=o.cell g (fun h=>h)
 replace j:=o.cell j (fun h=>h)
 replace l:=o.cell l (fun h=>h)
 replace i:=i.trans o
 clear o
 go_wp2_with fail
 refine(qah 2 100 T).mono ?_
 rintro e w4 ⟨_,rfl,m,p4,q4,rfl,H,L,z,C⟩
 have O:=i.size
 replace f:=m.cell f (fun h=>h)
 replace g:=m.cell g (fun h=>h)
 replace j:=m.cell j (fun h=>h)
 replace l:=m.cell l (fun h=>h)
 replace q:=m.cell q (fun h=>h)
 replace t:=m.cell t (fun h=>h)
 replace i:=i.trans m
 have P:=i.size
 clear m
 go_wp2_with fail
 go_ret2
 exact⟨rfl,i⟩
theorem qyu(k:Int)(xs:List Fld)(f:fieldsOf k=some xs)(w:World):Calls Tryz.prog 64 #[.int .i64 k] w (qfg xs w):=by
 unfold fieldsOf at f
 by_cases g:k=1
 ·subst g
  obtain rfl:_=xs:=Option.some.inj f
  exact q5u w
 rw[if_neg g] at f
 by_cases i:k=2
 ·subst i
  obtain rfl:_=xs:=Option.some.inj f
  exact q5v w
 rw[if_neg i] at f
 by_cases j:k=3
 ·subst j
  obtain rfl:_=xs:=Option.some.inj f
  exact q5w w
 rw[if_neg j] at f
 by_cases l:k=4
 ·subst l
  obtain rfl:_=xs:=Option.some.inj f
  exact q5x w
 rw[if_neg l] at f
 by_cases m:k=5
 ·subst m
  obtain rfl:_=xs:=Option.some.inj f
  exact q5y w
 rw[if_neg m] at f
 by_cases o:k=6
 ·subst o
  obtain rfl:_=xs:=Option.some.inj f
  exact q5z w
 rw[if_neg o] at f
 by_cases q:k=7
 ·subst q
  obtain rfl:_=xs:=Option.some.inj f
  exact q50 w
 rw[if_neg q] at f
 by_cases t:k=8
 ·subst t
  obtain rfl:_=xs:=Option.some.inj f
  exact q51 w
 rw[if_neg t] at f
 by_cases v:k=9
 ·subst v
  obtain rfl:_=xs:=Option.some.inj f
  exact q52 w
 rw[if_neg v] at f
 cases f
end Go.Proofs.YtjpmomdechibmaaGreatDoor
