/-
  wire.fields (printed by tools/mk_fld.py).
-/
import Derived.Test.YtjpmomdechibmaaGreatDoorMbi
set_option linter.unusedVariables false
set_option linter.unusedSimpArgs false
namespace Go.Proofs.YtjpmomdechibmaaGreatDoor
open Go.RowKit
def fieldsOf(kind:Int):Option (List Fld) :=
 if kind=1 then some [.ch,.amount] else if kind=2 then some [.ch] else if kind=3 then some [.ch,.id,.amount,.hash,.expiry] else if kind=4 then some [.ch,.id,.hash] else if kind=5 then some [.ch,.id,.number]
 else if kind=6 then some [.ch,.number,.hash] else if kind=7 then some [.ch,.number,.hash] else if kind=8 then some [.ch] else if kind=9 then some [.ch,.number,.id] else none
theorem qf3{w:World}{a b:Nat}{e:TypeId}{size:Nat}{v:Value}{n:Nat}{xs:List Value}(h:w.ownsRow b e size v n xs)(ab:a≤b):w.ownsRow a e size v n xs:=by
 refine⟨h.1,?_⟩
 rcases h.2 with h | ⟨g,cap,f,i,l,r⟩
 ·exact .inl h
 ·exact .inr ⟨g,cap,f,i,by omega,r⟩
def qfz(xs:List Fld)(w:World)(e:Ending)(w':World):Prop:=∃v,e = .returned (.tuple #[v,.bool true])∧qy w w'∧FldsO w.heap.size w' v xs
set_option maxRecDepth 100000 in
set_option maxHeartbeats 1000000 in
theorem q7j(w:World):Calls Tryz.prog 64 #[.int .i64 1] w (qfz [.ch,.amount] w):=by
 go_enter Tryz.func64,Tryz.ntmps64
 go_wp2_with fail
 refine(qaf 8 96 w).mono ?_
 rintro e w1 ⟨_,rfl,o,p1,q1,rfl,W,a4,f,g⟩
 go_wp2_with fail
 refine(qaf 8 97 w1).mono ?_
 rintro e w2 ⟨_,rfl,H,I,J,rfl,X,a5,l,m⟩
 have a8:=o.size
 replace f:=H.cell f (fun h=>h)
 replace g:=H.cell g (fun h=>h)
 replace o:=o.trans H
 clear H
 go_wp2_with fail
 refine(qao 4 99 w2).mono ?_
 rintro e w3 ⟨_,rfl,D,p3,q3,rfl,Y,a6,t,y⟩
 have a9:=o.size
 replace f:=D.cell f (fun h=>h)
 replace g:=D.cell g (fun h=>h)
 replace l:=D.cell l (fun h=>h)
 replace m:=D.cell m (fun h=>h)
 replace o:=o.trans D
 clear D
 go_wp2_with fail
 refine(qao 2 100 w3).mono ?_
 rintro e K ⟨_,rfl,z,p4,q4,rfl,Z,a7,E,F⟩
 have b3:=o.size
 replace f:=z.cell f (fun h=>h)
 replace g:=z.cell g (fun h=>h)
 replace l:=z.cell l (fun h=>h)
 replace m:=z.cell m (fun h=>h)
 replace t:=z.cell t (fun h=>h)
 replace y:=z.cell y (fun h=>h)
 replace o:=o.trans z
 have b4:=o.size
 clear z
 go_wp2_with fail
 have C:qy K (K.alloc (.cells #[(.func (.func 115) #[] #[.pointer (some ⟨I,0,none⟩),.pointer (some ⟨J,0,none⟩)])] 165)):=(Upd.refl _ _).alloc _
 refine(qg4 K.heap.size [(.func (.func 115) #[] #[.pointer (some ⟨I,0,none⟩),.pointer (some ⟨J,0,none⟩)])] _ (qi K (.cells #[(.func (.func 115) #[] #[.pointer (some ⟨I,0,none⟩),.pointer (some ⟨J,0,none⟩)])] 165)) ?one (by show 1≤100;decide)).mono ?_
 case one=>intro v P;simp only[List.mem_cons,List.not_mem_nil,or_false] at P;rcases P with rfl<;>rfl
 rintro e w5 ⟨v,c,rfl,R,N,M⟩
 have b5:=C.size
 have q:=C.trans R
 have V:=qb (qf3 N (show w.heap.size≤_ by omega))
 have T:=qb (M.later (show w.heap.size≤_ by omega))
 replace f:=q.cell f (fun h=>h)
 replace g:=q.cell g (fun h=>h)
 replace l:=q.cell l (fun h=>h)
 replace m:=q.cell m (fun h=>h)
 replace t:=q.cell t (fun h=>h)
 replace y:=q.cell y (fun h=>h)
 replace E:=q.cell E (fun h=>h)
 replace F:=q.cell F (fun h=>h)
 have U:=qb (o.trans q)
 clear o R q C N M
 go_wp2_with fail
 go_ret2
 refine⟨v,rfl,qa U,⟨_,qa V,rfl,?_⟩⟩
 intro i x u L O
 rcases i with _ | _ | _
 ·obtain rfl:_=x:=Option.some.inj L
  obtain rfl:_=u:=Option.some.inj O
  exact qa T
 ·obtain rfl:_=x:=Option.some.inj L
  obtain rfl:_=u:=Option.some.inj O
  exact⟨I,J,rfl,by omega,by omega,l,m⟩
 ·cases L
set_option maxRecDepth 100000 in
set_option maxHeartbeats 1000000 in
theorem q7k(w:World):Calls Tryz.prog 64 #[.int .i64 2] w (qfz [.ch] w):=by
 go_enter Tryz.func64,Tryz.ntmps64
 go_wp2_with fail
 refine(qaf 8 96 w).mono ?_
 rintro e w1 ⟨_,rfl,o,p1,q1,rfl,R,W,f,g⟩
 go_wp2_with fail
 refine(qaf 8 97 w1).mono ?_
 rintro e w2 ⟨_,rfl,H,p2,q2,rfl,T,X,l,m⟩
 have a4:=o.size
 replace f:=H.cell f (fun h=>h)
 replace g:=H.cell g (fun h=>h)
 replace o:=o.trans H
 clear H
 go_wp2_with fail
 refine(qao 4 99 w2).mono ?_
 rintro e w3 ⟨_,rfl,D,p3,q3,rfl,U,Y,t,y⟩
 have a5:=o.size
 replace f:=D.cell f (fun h=>h)
 replace g:=D.cell g (fun h=>h)
 replace l:=D.cell l (fun h=>h)
 replace m:=D.cell m (fun h=>h)
 replace o:=o.trans D
 clear D
 go_wp2_with fail
 refine(qao 2 100 w3).mono ?_
 rintro e I ⟨_,rfl,z,p4,q4,rfl,V,Z,E,F⟩
 have a6:=o.size
 replace f:=z.cell f (fun h=>h)
 replace g:=z.cell g (fun h=>h)
 replace l:=z.cell l (fun h=>h)
 replace m:=z.cell m (fun h=>h)
 replace t:=z.cell t (fun h=>h)
 replace y:=z.cell y (fun h=>h)
 replace o:=o.trans z
 have a7:=o.size
 clear z
 go_wp2_with fail
 have C:qy I I:=Upd.refl _ _
 refine(qtd I).mono ?_
 rintro e w5 ⟨v,c,rfl,M,K,J⟩
 have a8:=C.size
 have q:=C.trans M
 have P:=qb (qf3 K (show w.heap.size≤_ by omega))
 have N:=qb (J.later (show w.heap.size≤_ by omega))
 replace f:=q.cell f (fun h=>h)
 replace g:=q.cell g (fun h=>h)
 replace l:=q.cell l (fun h=>h)
 replace m:=q.cell m (fun h=>h)
 replace t:=q.cell t (fun h=>h)
 replace y:=q.cell y (fun h=>h)
 replace E:=q.cell E (fun h=>h)
 replace F:=q.cell F (fun h=>h)
 have O:=qb (o.trans q)
 clear o M q C K J
 go_wp2_with fail
 go_ret2
 refine⟨v,rfl,qa O,⟨_,qa P,rfl,?_⟩⟩
 intro i x u L hu
 rcases i with _ | _
 ·obtain rfl:_=x:=Option.some.inj L
  obtain rfl:_=u:=Option.some.inj hu
  exact qa N
 ·cases L
set_option maxRecDepth 100000 in
set_option maxHeartbeats 1000000 in
theorem q7l(w:World):Calls Tryz.prog 64 #[.int .i64 3] w (qfz [.ch,.id,.amount,.hash,.expiry] w):=by
 go_enter Tryz.func64,Tryz.ntmps64
 go_wp2_with fail
 refine(qaf 8 96 w).mono ?_
 rintro e w1 ⟨_,rfl,o,K,N,rfl,a4,a8,f,g⟩
 go_wp2_with fail
 refine(qaf 8 97 w1).mono ?_
 rintro e w2 ⟨_,rfl,J,L,O,rfl,a5,a9,l,m⟩
 have b5:=o.size
 replace f:=J.cell f (fun h=>h)
 replace g:=J.cell g (fun h=>h)
 replace o:=o.trans J
 clear J
 go_wp2_with fail
 refine(qao 4 99 w2).mono ?_
 rintro e w3 ⟨_,rfl,E,M,P,rfl,a6,b3,q,t⟩
 have b6:=o.size
 replace f:=E.cell f (fun h=>h)
 replace g:=E.cell g (fun h=>h)
 replace l:=E.cell l (fun h=>h)
 replace m:=E.cell m (fun h=>h)
 replace o:=o.trans E
 clear E
 go_wp2_with fail
 refine(qao 2 100 w3).mono ?_
 rintro e R ⟨_,rfl,z,p4,q4,rfl,a7,b4,F,H⟩
 have b7:=o.size
 replace f:=z.cell f (fun h=>h)
 replace g:=z.cell g (fun h=>h)
 replace l:=z.cell l (fun h=>h)
 replace m:=z.cell m (fun h=>h)
 replace q:=z.cell q (fun h=>h)
 replace t:=z.cell t (fun h=>h)
 replace o:=o.trans z
 have b8:=o.size
 clear z
 go_wp2_with fail
 have C:qy R (R.alloc (.cells #[(.func (.func 115) #[] #[.pointer (some ⟨K,0,none⟩),.pointer (some ⟨N,0,none⟩)]),(.func (.func 115) #[] #[.pointer (some ⟨L,0,none⟩),.pointer (some ⟨O,0,none⟩)]),(.func (.func 102) #[] #[]),(.func (.func 118) #[] #[.pointer (some ⟨M,0,none⟩),.pointer (some ⟨P,0,none⟩)])] 165)):=(Upd.refl _ _).alloc _
 refine(qg4 R.heap.size [(.func (.func 115) #[] #[.pointer (some ⟨K,0,none⟩),.pointer (some ⟨N,0,none⟩)]),(.func (.func 115) #[] #[.pointer (some ⟨L,0,none⟩),.pointer (some ⟨O,0,none⟩)]),(.func (.func 102) #[] #[]),(.func (.func 118) #[] #[.pointer (some ⟨M,0,none⟩),.pointer (some ⟨P,0,none⟩)])] _ (qi R (.cells #[(.func (.func 115) #[] #[.pointer (some ⟨K,0,none⟩),.pointer (some ⟨N,0,none⟩)]),(.func (.func 115) #[] #[.pointer (some ⟨L,0,none⟩),.pointer (some ⟨O,0,none⟩)]),(.func (.func 102) #[] #[]),(.func (.func 118) #[] #[.pointer (some ⟨M,0,none⟩),.pointer (some ⟨P,0,none⟩)])] 165)) ?one (by show 4≤100;decide)).mono ?_
 case one=>intro v V;simp only[List.mem_cons,List.not_mem_nil,or_false] at V;rcases V with rfl | rfl | rfl | rfl<;>rfl
 rintro e w5 ⟨v,c,rfl,W,U,T⟩
 have b9:=C.size
 have y:=C.trans W
 have Z:=qb (qf3 U (show w.heap.size≤_ by omega))
 have X:=qb (T.later (show w.heap.size≤_ by omega))
 replace f:=y.cell f (fun h=>h)
 replace g:=y.cell g (fun h=>h)
 replace l:=y.cell l (fun h=>h)
 replace m:=y.cell m (fun h=>h)
 replace q:=y.cell q (fun h=>h)
 replace t:=y.cell t (fun h=>h)
 replace F:=y.cell F (fun h=>h)
 replace H:=y.cell H (fun h=>h)
 have Y:=qb (o.trans y)
 clear o W y C U T
 go_wp2_with fail
 go_ret2
 refine⟨v,rfl,qa Y,⟨_,qa Z,rfl,?_⟩⟩
 intro i x u D I
 rcases i with _ | _ | _ | _ | _ | _
 ·obtain rfl:_=x:=Option.some.inj D
  obtain rfl:_=u:=Option.some.inj I
  exact qa X
 ·obtain rfl:_=x:=Option.some.inj D
  obtain rfl:_=u:=Option.some.inj I
  exact⟨K,N,rfl,by omega,by omega,f,g⟩
 ·obtain rfl:_=x:=Option.some.inj D
  obtain rfl:_=u:=Option.some.inj I
  exact⟨L,O,rfl,by omega,by omega,l,m⟩
 ·obtain rfl:_=x:=Option.some.inj D
  obtain rfl:_=u:=Option.some.inj I
  exact rfl
 ·obtain rfl:_=x:=Option.some.inj D
  obtain rfl:_=u:=Option.some.inj I
  exact⟨M,P,rfl,by omega,by omega,q,t⟩
 ·cases D
set_option maxRecDepth 100000 in
set_option maxHeartbeats 1000000 in
theorem q7m(w:World):Calls Tryz.prog 64 #[.int .i64 4] w (qfz [.ch,.id,.hash] w):=by
 go_enter Tryz.func64,Tryz.ntmps64
 go_wp2_with fail
 refine(qaf 8 96 w).mono ?_
 rintro e w1 ⟨_,rfl,o,J,K,rfl,W,a4,f,g⟩
 go_wp2_with fail
 refine(qaf 8 97 w1).mono ?_
 rintro e w2 ⟨_,rfl,I,p2,q2,rfl,X,a5,l,m⟩
 have a8:=o.size
 replace f:=I.cell f (fun h=>h)
 replace g:=I.cell g (fun h=>h)
 replace o:=o.trans I
 clear I
 go_wp2_with fail
 refine(qao 4 99 w2).mono ?_
 rintro e w3 ⟨_,rfl,D,p3,q3,rfl,Y,a6,t,y⟩
 have a9:=o.size
 replace f:=D.cell f (fun h=>h)
 replace g:=D.cell g (fun h=>h)
 replace l:=D.cell l (fun h=>h)
 replace m:=D.cell m (fun h=>h)
 replace o:=o.trans D
 clear D
 go_wp2_with fail
 refine(qao 2 100 w3).mono ?_
 rintro e L ⟨_,rfl,z,p4,q4,rfl,Z,a7,E,F⟩
 have b3:=o.size
 replace f:=z.cell f (fun h=>h)
 replace g:=z.cell g (fun h=>h)
 replace l:=z.cell l (fun h=>h)
 replace m:=z.cell m (fun h=>h)
 replace t:=z.cell t (fun h=>h)
 replace y:=z.cell y (fun h=>h)
 replace o:=o.trans z
 have b4:=o.size
 clear z
 go_wp2_with fail
 have C:qy L (L.alloc (.cells #[(.func (.func 115) #[] #[.pointer (some ⟨J,0,none⟩),.pointer (some ⟨K,0,none⟩)]),(.func (.func 102) #[] #[])] 165)):=(Upd.refl _ _).alloc _
 refine(qg4 L.heap.size [(.func (.func 115) #[] #[.pointer (some ⟨J,0,none⟩),.pointer (some ⟨K,0,none⟩)]),(.func (.func 102) #[] #[])] _ (qi L (.cells #[(.func (.func 115) #[] #[.pointer (some ⟨J,0,none⟩),.pointer (some ⟨K,0,none⟩)]),(.func (.func 102) #[] #[])] 165)) ?one (by show 2≤100;decide)).mono ?_
 case one=>intro v P;simp only[List.mem_cons,List.not_mem_nil,or_false] at P;rcases P with rfl | rfl<;>rfl
 rintro e w5 ⟨v,c,rfl,R,O,N⟩
 have b5:=C.size
 have q:=C.trans R
 have V:=qb (qf3 O (show w.heap.size≤_ by omega))
 have T:=qb (N.later (show w.heap.size≤_ by omega))
 replace f:=q.cell f (fun h=>h)
 replace g:=q.cell g (fun h=>h)
 replace l:=q.cell l (fun h=>h)
 replace m:=q.cell m (fun h=>h)
 replace t:=q.cell t (fun h=>h)
 replace y:=q.cell y (fun h=>h)
 replace E:=q.cell E (fun h=>h)
 replace F:=q.cell F (fun h=>h)
 have U:=qb (o.trans q)
 clear o R q C O N
 go_wp2_with fail
 go_ret2
 refine⟨v,rfl,qa U,⟨_,qa V,rfl,?_⟩⟩
 intro i x u H M
 rcases i with _ | _ | _ | _
 ·obtain rfl:_=x:=Option.some.inj H
  obtain rfl:_=u:=Option.some.inj M
  exact qa T
 ·obtain rfl:_=x:=Option.some.inj H
  obtain rfl:_=u:=Option.some.inj M
  exact⟨J,K,rfl,by omega,by omega,f,g⟩
 ·obtain rfl:_=x:=Option.some.inj H
  obtain rfl:_=u:=Option.some.inj M
  exact rfl
 ·cases H
set_option maxRecDepth 100000 in
set_option maxHeartbeats 1000000 in
theorem q7n(w:World):Calls Tryz.prog 64 #[.int .i64 5] w (qfz [.ch,.id,.number] w):=by
 go_enter Tryz.func64,Tryz.ntmps64
 go_wp2_with fail
 refine(qaf 8 96 w).mono ?_
 rintro e w1 ⟨_,rfl,o,J,L,rfl,Y,a6,f,g⟩
 go_wp2_with fail
 refine(qaf 8 97 w1).mono ?_
 rintro e w2 ⟨_,rfl,I,p2,q2,rfl,Z,a7,l,m⟩
 have b3:=o.size
 replace f:=I.cell f (fun h=>h)
 replace g:=I.cell g (fun h=>h)
 replace o:=o.trans I
 clear I
 go_wp2_with fail
 refine(qao 4 99 w2).mono ?_
 rintro e w3 ⟨_,rfl,F,p3,q3,rfl,a4,a8,t,y⟩
 have b4:=o.size
 replace f:=F.cell f (fun h=>h)
 replace g:=F.cell g (fun h=>h)
 replace l:=F.cell l (fun h=>h)
 replace m:=F.cell m (fun h=>h)
 replace o:=o.trans F
 clear F
 go_wp2_with fail
 refine(qao 2 100 w3).mono ?_
 rintro e N ⟨_,rfl,z,K,M,rfl,a5,a9,C,D⟩
 have b5:=o.size
 replace f:=z.cell f (fun h=>h)
 replace g:=z.cell g (fun h=>h)
 replace l:=z.cell l (fun h=>h)
 replace m:=z.cell m (fun h=>h)
 replace t:=z.cell t (fun h=>h)
 replace y:=z.cell y (fun h=>h)
 replace o:=o.trans z
 have b6:=o.size
 clear z
 go_wp2_with fail
 have E:qy N (N.alloc (.cells #[(.func (.func 115) #[] #[.pointer (some ⟨J,0,none⟩),.pointer (some ⟨L,0,none⟩)]),(.func (.func 118) #[] #[.pointer (some ⟨K,0,none⟩),.pointer (some ⟨M,0,none⟩)])] 165)):=(Upd.refl _ _).alloc _
 refine(qg4 N.heap.size [(.func (.func 115) #[] #[.pointer (some ⟨J,0,none⟩),.pointer (some ⟨L,0,none⟩)]),(.func (.func 118) #[] #[.pointer (some ⟨K,0,none⟩),.pointer (some ⟨M,0,none⟩)])] _ (qi N (.cells #[(.func (.func 115) #[] #[.pointer (some ⟨J,0,none⟩),.pointer (some ⟨L,0,none⟩)]),(.func (.func 118) #[] #[.pointer (some ⟨K,0,none⟩),.pointer (some ⟨M,0,none⟩)])] 165)) ?one (by show 2≤100;decide)).mono ?_
 case one=>intro v T;simp only[List.mem_cons,List.not_mem_nil,or_false] at T;rcases T with rfl | rfl<;>rfl
 rintro e w5 ⟨v,c,rfl,U,R,P⟩
 have b7:=E.size
 have q:=E.trans U
 have X:=qb (qf3 R (show w.heap.size≤_ by omega))
 have V:=qb (P.later (show w.heap.size≤_ by omega))
 replace f:=q.cell f (fun h=>h)
 replace g:=q.cell g (fun h=>h)
 replace l:=q.cell l (fun h=>h)
 replace m:=q.cell m (fun h=>h)
 replace t:=q.cell t (fun h=>h)
 replace y:=q.cell y (fun h=>h)
 replace C:=q.cell C (fun h=>h)
 replace D:=q.cell D (fun h=>h)
 have W:=qb (o.trans q)
 clear o U q E R P
 go_wp2_with fail
 go_ret2
 refine⟨v,rfl,qa W,⟨_,qa X,rfl,?_⟩⟩
 intro i x u H O
 rcases i with _ | _ | _ | _
 ·obtain rfl:_=x:=Option.some.inj H
  obtain rfl:_=u:=Option.some.inj O
  exact qa V
 ·obtain rfl:_=x:=Option.some.inj H
  obtain rfl:_=u:=Option.some.inj O
  exact⟨J,L,rfl,by omega,by omega,f,g⟩
 ·obtain rfl:_=x:=Option.some.inj H
  obtain rfl:_=u:=Option.some.inj O
  exact⟨K,M,rfl,by omega,by omega,C,D⟩
 ·cases H
set_option maxRecDepth 100000 in
set_option maxHeartbeats 1000000 in
theorem q7o(w:World):Calls Tryz.prog 64 #[.int .i64 6] w (qfz [.ch,.number,.hash] w):=by
 go_enter Tryz.func64,Tryz.ntmps64
 go_wp2_with fail
 refine(qaf 8 96 w).mono ?_
 rintro e w1 ⟨_,rfl,o,p1,q1,rfl,W,a4,f,g⟩
 go_wp2_with fail
 refine(qaf 8 97 w1).mono ?_
 rintro e w2 ⟨_,rfl,I,p2,q2,rfl,X,a5,l,m⟩
 have a8:=o.size
 replace f:=I.cell f (fun h=>h)
 replace g:=I.cell g (fun h=>h)
 replace o:=o.trans I
 clear I
 go_wp2_with fail
 refine(qao 4 99 w2).mono ?_
 rintro e w3 ⟨_,rfl,F,p3,q3,rfl,Y,a6,t,y⟩
 have a9:=o.size
 replace f:=F.cell f (fun h=>h)
 replace g:=F.cell g (fun h=>h)
 replace l:=F.cell l (fun h=>h)
 replace m:=F.cell m (fun h=>h)
 replace o:=o.trans F
 clear F
 go_wp2_with fail
 refine(qao 2 100 w3).mono ?_
 rintro e L ⟨_,rfl,z,J,K,rfl,Z,a7,C,D⟩
 have b3:=o.size
 replace f:=z.cell f (fun h=>h)
 replace g:=z.cell g (fun h=>h)
 replace l:=z.cell l (fun h=>h)
 replace m:=z.cell m (fun h=>h)
 replace t:=z.cell t (fun h=>h)
 replace y:=z.cell y (fun h=>h)
 replace o:=o.trans z
 have b4:=o.size
 clear z
 go_wp2_with fail
 have E:qy L (L.alloc (.cells #[(.func (.func 118) #[] #[.pointer (some ⟨J,0,none⟩),.pointer (some ⟨K,0,none⟩)]),(.func (.func 102) #[] #[])] 165)):=(Upd.refl _ _).alloc _
 refine(qg4 L.heap.size [(.func (.func 118) #[] #[.pointer (some ⟨J,0,none⟩),.pointer (some ⟨K,0,none⟩)]),(.func (.func 102) #[] #[])] _ (qi L (.cells #[(.func (.func 118) #[] #[.pointer (some ⟨J,0,none⟩),.pointer (some ⟨K,0,none⟩)]),(.func (.func 102) #[] #[])] 165)) ?one (by show 2≤100;decide)).mono ?_
 case one=>intro v P;simp only[List.mem_cons,List.not_mem_nil,or_false] at P;rcases P with rfl | rfl<;>rfl
 rintro e w5 ⟨v,c,rfl,R,O,N⟩
 have b5:=E.size
 have q:=E.trans R
 have V:=qb (qf3 O (show w.heap.size≤_ by omega))
 have T:=qb (N.later (show w.heap.size≤_ by omega))
 replace f:=q.cell f (fun h=>h)
 replace g:=q.cell g (fun h=>h)
 replace l:=q.cell l (fun h=>h)
 replace m:=q.cell m (fun h=>h)
 replace t:=q.cell t (fun h=>h)
 replace y:=q.cell y (fun h=>h)
 replace C:=q.cell C (fun h=>h)
 replace D:=q.cell D (fun h=>h)
 have U:=qb (o.trans q)
 clear o R q E O N
 go_wp2_with fail
 go_ret2
 refine⟨v,rfl,qa U,⟨_,qa V,rfl,?_⟩⟩
 intro i x u H M
 rcases i with _ | _ | _ | _
 ·obtain rfl:_=x:=Option.some.inj H
  obtain rfl:_=u:=Option.some.inj M
  exact qa T
 ·obtain rfl:_=x:=Option.some.inj H
  obtain rfl:_=u:=Option.some.inj M
  exact⟨J,K,rfl,by omega,by omega,C,D⟩
 ·obtain rfl:_=x:=Option.some.inj H
  obtain rfl:_=u:=Option.some.inj M
  exact rfl
 ·cases H
set_option maxRecDepth 100000 in
set_option maxHeartbeats 1000000 in
theorem q7p(w:World):Calls Tryz.prog 64 #[.int .i64 7] w (qfz [.ch,.number,.hash] w):=by
 go_enter Tryz.func64,Tryz.ntmps64
 go_wp2_with fail
 refine(qaf 8 96 w).mono ?_
 rintro e w1 ⟨_,rfl,o,p1,q1,rfl,W,a4,f,g⟩
 go_wp2_with fail
 refine(qaf 8 97 w1).mono ?_
 rintro e w2 ⟨_,rfl,I,p2,q2,rfl,X,a5,l,m⟩
 have a8:=o.size
 replace f:=I.cell f (fun h=>h)
 replace g:=I.cell g (fun h=>h)
 replace o:=o.trans I
 clear I
 go_wp2_with fail
 refine(qao 4 99 w2).mono ?_
 rintro e w3 ⟨_,rfl,F,p3,q3,rfl,Y,a6,t,y⟩
 have a9:=o.size
 replace f:=F.cell f (fun h=>h)
 replace g:=F.cell g (fun h=>h)
 replace l:=F.cell l (fun h=>h)
 replace m:=F.cell m (fun h=>h)
 replace o:=o.trans F
 clear F
 go_wp2_with fail
 refine(qao 2 100 w3).mono ?_
 rintro e L ⟨_,rfl,z,J,K,rfl,Z,a7,C,D⟩
 have b3:=o.size
 replace f:=z.cell f (fun h=>h)
 replace g:=z.cell g (fun h=>h)
 replace l:=z.cell l (fun h=>h)
 replace m:=z.cell m (fun h=>h)
 replace t:=z.cell t (fun h=>h)
 replace y:=z.cell y (fun h=>h)
 replace o:=o.trans z
 have b4:=o.size
 clear z
 go_wp2_with fail
 have E:qy L (L.alloc (.cells #[(.func (.func 118) #[] #[.pointer (some ⟨J,0,none⟩),.pointer (some ⟨K,0,none⟩)]),(.func (.func 102) #[] #[])] 165)):=(Upd.refl _ _).alloc _
 refine(qg4 L.heap.size [(.func (.func 118) #[] #[.pointer (some ⟨J,0,none⟩),.pointer (some ⟨K,0,none⟩)]),(.func (.func 102) #[] #[])] _ (qi L (.cells #[(.func (.func 118) #[] #[.pointer (some ⟨J,0,none⟩),.pointer (some ⟨K,0,none⟩)]),(.func (.func 102) #[] #[])] 165)) ?one (by show 2≤100;decide)).mono ?_
 case one=>intro v P;simp only[List.mem_cons,List.not_mem_nil,or_false] at P;rcases P with rfl | rfl<;>rfl
 rintro e w5 ⟨v,c,rfl,R,O,N⟩
 have b5:=E.size
 have q:=E.trans R
 have V:=qb (qf3 O (show w.heap.size≤_ by omega))
 have T:=qb (N.later (show w.heap.size≤_ by omega))
 replace f:=q.cell f (fun h=>h)
 replace g:=q.cell g (fun h=>h)
 replace l:=q.cell l (fun h=>h)
 replace m:=q.cell m (fun h=>h)
 replace t:=q.cell t (fun h=>h)
 replace y:=q.cell y (fun h=>h)
 replace C:=q.cell C (fun h=>h)
 replace D:=q.cell D (fun h=>h)
 have U:=qb (o.trans q)
 clear o R q E O N
 go_wp2_with fail
 go_ret2
 refine⟨v,rfl,qa U,⟨_,qa V,rfl,?_⟩⟩
 intro i x u H M
 rcases i with _ | _ | _ | _
 ·obtain rfl:_=x:=Option.some.inj H
  obtain rfl:_=u:=Option.some.inj M
  exact qa T
 ·obtain rfl:_=x:=Option.some.inj H
  obtain rfl:_=u:=Option.some.inj M
  exact⟨J,K,rfl,by omega,by omega,C,D⟩
 ·obtain rfl:_=x:=Option.some.inj H
  obtain rfl:_=u:=Option.some.inj M
  exact rfl
 ·cases H
set_option maxRecDepth 100000 in
set_option maxHeartbeats 1000000 in
theorem q7q(w:World):Calls Tryz.prog 64 #[.int .i64 8] w (qfz [.ch] w):=by
 go_enter Tryz.func64,Tryz.ntmps64
 go_wp2_with fail
 refine(qaf 8 96 w).mono ?_
 rintro e w1 ⟨_,rfl,o,p1,q1,rfl,R,W,f,g⟩
 go_wp2_with fail
 refine(qaf 8 97 w1).mono ?_
 rintro e w2 ⟨_,rfl,H,p2,q2,rfl,T,X,l,m⟩
 have a4:=o.size
 replace f:=H.cell f (fun h=>h)
 replace g:=H.cell g (fun h=>h)
 replace o:=o.trans H
 clear H
 go_wp2_with fail
 refine(qao 4 99 w2).mono ?_
 rintro e w3 ⟨_,rfl,D,p3,q3,rfl,U,Y,t,y⟩
 have a5:=o.size
 replace f:=D.cell f (fun h=>h)
 replace g:=D.cell g (fun h=>h)
 replace l:=D.cell l (fun h=>h)
 replace m:=D.cell m (fun h=>h)
 replace o:=o.trans D
 clear D
 go_wp2_with fail
 refine(qao 2 100 w3).mono ?_
 rintro e I ⟨_,rfl,z,p4,q4,rfl,V,Z,E,F⟩
 have a6:=o.size
 replace f:=z.cell f (fun h=>h)
 replace g:=z.cell g (fun h=>h)
 replace l:=z.cell l (fun h=>h)
 replace m:=z.cell m (fun h=>h)
 replace t:=z.cell t (fun h=>h)
 replace y:=z.cell y (fun h=>h)
 replace o:=o.trans z
 have a7:=o.size
 clear z
 go_wp2_with fail
 have C:qy I I:=Upd.refl _ _
 refine(qtd I).mono ?_
 rintro e w5 ⟨v,c,rfl,M,K,J⟩
 have a8:=C.size
 have q:=C.trans M
 have P:=qb (qf3 K (show w.heap.size≤_ by omega))
 have N:=qb (J.later (show w.heap.size≤_ by omega))
 replace f:=q.cell f (fun h=>h)
 replace g:=q.cell g (fun h=>h)
 replace l:=q.cell l (fun h=>h)
 replace m:=q.cell m (fun h=>h)
 replace t:=q.cell t (fun h=>h)
 replace y:=q.cell y (fun h=>h)
 replace E:=q.cell E (fun h=>h)
 replace F:=q.cell F (fun h=>h)
 have O:=qb (o.trans q)
 clear o M q C K J
 go_wp2_with fail
 go_ret2
 refine⟨v,rfl,qa O,⟨_,qa P,rfl,?_⟩⟩
 intro i x u L hu
 rcases i with _ | _
 ·obtain rfl:_=x:=Option.some.inj L
  obtain rfl:_=u:=Option.some.inj hu
  exact qa N
 ·cases L
set_option maxRecDepth 100000 in
set_option maxHeartbeats 1000000 in
theorem q7r(w:World):Calls Tryz.prog 64 #[.int .i64 9] w (qfz [.ch,.number,.id] w):=by
 go_enter Tryz.func64,Tryz.ntmps64
 go_wp2_with fail
 refine(qaf 8 96 w).mono ?_
 rintro e w1 ⟨_,rfl,o,J,L,rfl,Y,a6,f,g⟩
 go_wp2_with fail
 refine(qaf 8 97 w1).mono ?_
 rintro e w2 ⟨_,rfl,I,p2,q2,rfl,Z,a7,l,m⟩
 have b3:=o.size
 replace f:=I.cell f (fun h=>h)
 replace g:=I.cell g (fun h=>h)
 replace o:=o.trans I
 clear I
 go_wp2_with fail
 refine(qao 4 99 w2).mono ?_
 rintro e w3 ⟨_,rfl,F,p3,q3,rfl,a4,a8,t,y⟩
 have b4:=o.size
 replace f:=F.cell f (fun h=>h)
 replace g:=F.cell g (fun h=>h)
 replace l:=F.cell l (fun h=>h)
 replace m:=F.cell m (fun h=>h)
 replace o:=o.trans F
 clear F
 go_wp2_with fail
 refine(qao 2 100 w3).mono ?_
 rintro e N ⟨_,rfl,z,K,M,rfl,a5,a9,C,D⟩
 have b5:=o.size
 replace f:=z.cell f (fun h=>h)
 replace g:=z.cell g (fun h=>h)
 replace l:=z.cell l (fun h=>h)
 replace m:=z.cell m (fun h=>h)
 replace t:=z.cell t (fun h=>h)
 replace y:=z.cell y (fun h=>h)
 replace o:=o.trans z
 have b6:=o.size
 clear z
 go_wp2_with fail
 have E:qy N (N.alloc (.cells #[(.func (.func 118) #[] #[.pointer (some ⟨K,0,none⟩),.pointer (some ⟨M,0,none⟩)]),(.func (.func 115) #[] #[.pointer (some ⟨J,0,none⟩),.pointer (some ⟨L,0,none⟩)])] 165)):=(Upd.refl _ _).alloc _
 refine(qg4 N.heap.size [(.func (.func 118) #[] #[.pointer (some ⟨K,0,none⟩),.pointer (some ⟨M,0,none⟩)]),(.func (.func 115) #[] #[.pointer (some ⟨J,0,none⟩),.pointer (some ⟨L,0,none⟩)])] _ (qi N (.cells #[(.func (.func 118) #[] #[.pointer (some ⟨K,0,none⟩),.pointer (some ⟨M,0,none⟩)]),(.func (.func 115) #[] #[.pointer (some ⟨J,0,none⟩),.pointer (some ⟨L,0,none⟩)])] 165)) ?one (by show 2≤100;decide)).mono ?_
 case one=>intro v T;simp only[List.mem_cons,List.not_mem_nil,or_false] at T;rcases T with rfl | rfl<;>rfl
 rintro e w5 ⟨v,c,rfl,U,R,P⟩
 have b7:=E.size
 have q:=E.trans U
 have X:=qb (qf3 R (show w.heap.size≤_ by omega))
 have V:=qb (P.later (show w.heap.size≤_ by omega))
 replace f:=q.cell f (fun h=>h)
 replace g:=q.cell g (fun h=>h)
 replace l:=q.cell l (fun h=>h)
 replace m:=q.cell m (fun h=>h)
 replace t:=q.cell t (fun h=>h)
 replace y:=q.cell y (fun h=>h)
 replace C:=q.cell C (fun h=>h)
 replace D:=q.cell D (fun h=>h)
 have W:=qb (o.trans q)
 clear o U q E R P
 go_wp2_with fail
 go_ret2
 refine⟨v,rfl,qa W,⟨_,qa X,rfl,?_⟩⟩
 intro i x u H O
 rcases i with _ | _ | _ | _
 ·obtain rfl:_=x:=Option.some.inj H
  obtain rfl:_=u:=Option.some.inj O
  exact qa V
 ·obtain rfl:_=x:=Option.some.inj H
  obtain rfl:_=u:=Option.some.inj O
  exact⟨K,M,rfl,by omega,by omega,C,D⟩
 ·obtain rfl:_=x:=Option.some.inj H
  obtain rfl:_=u:=Option.some.inj O
  exact⟨J,L,rfl,by omega,by omega,f,g⟩
 ·cases H
set_option maxRecDepth 100000 in
set_option maxHeartbeats 1000000 in
theorem qw6(k:Int)(z:fieldsOf k=none)(w:World):Calls Tryz.prog 64 #[.int .i64 k] w (qa7 (.tuple #[qbt,.bool false]) w):=by
 have y:¬k=1∧¬k=2∧¬k=3∧¬k=4∧¬k=5∧¬k=6∧¬k=7∧¬k=8∧¬k=9:=by
  refine⟨?_,?_,?_,?_,?_,?_,?_,?_,?_⟩<;>(rintro rfl;cases z)
 obtain⟨V,W,X,Y,Z,e6,e7,e8,e9⟩:=y
 clear z
 go_enter Tryz.func64,Tryz.ntmps64
 go_wp2_with fail
 refine(qaf 8 96 w).mono ?_
 rintro e w1 ⟨_,rfl,i,p1,q1,rfl,E,J,f,g⟩
 go_wp2_with fail
 refine(qaf 8 97 w1).mono ?_
 rintro e T ⟨_,rfl,x,p2,q2,rfl,F,K,l,m⟩
 have N:=i.size
 replace f:=x.cell f (fun h=>h)
 replace g:=x.cell g (fun h=>h)
 replace i:=i.trans x
 clear x
 go_wp2_with fail
 refine(qao 4 99 T).mono ?_
 rintro e U ⟨_,rfl,q,p3,q3,rfl,H,L,t,v⟩
 have O:=i.size
 replace f:=q.cell f (fun h=>h)
 replace g:=q.cell g (fun h=>h)
 replace l:=q.cell l (fun h=>h)
 replace m:=q.cell m (fun h=>h)
 replace i:=i.trans q
 clear q
 go_wp2_with fail
 refine(qao 2 100 U).mono ?_
 rintro e w4 ⟨_,rfl,o,p4,q4,rfl,I,M,C,D⟩
 have P:=i.size
 replace f:=o.cell f (fun h=>h)
 replace g:=o.cell g (fun h=>h)
 replace l:=o.cell l (fun h=>h)
 replace m:=o.cell m (fun h=>h)
 replace t:=o.cell t (fun h=>h)
 replace v:=o.cell v (fun h=>h)
 replace i:=i.trans o
 have R:=i.size
 clear o
 go_wp2_with fail
 go_ret2
 exact⟨rfl,i⟩
theorem qz3(k:Int)(xs:List Fld)(f:fieldsOf k=some xs)(w:World):Calls Tryz.prog 64 #[.int .i64 k] w (qfz xs w):=by
 unfold fieldsOf at f
 by_cases g:k=1
 ·subst g
  obtain rfl:_=xs:=Option.some.inj f
  exact q7j w
 rw[if_neg g] at f
 by_cases i:k=2
 ·subst i
  obtain rfl:_=xs:=Option.some.inj f
  exact q7k w
 rw[if_neg i] at f
 by_cases l:k=3
 ·subst l
  obtain rfl:_=xs:=Option.some.inj f
  exact q7l w
 rw[if_neg l] at f
 by_cases m:k=4
 ·subst m
  obtain rfl:_=xs:=Option.some.inj f
  exact q7m w
 rw[if_neg m] at f
 by_cases o:k=5
 ·subst o
  obtain rfl:_=xs:=Option.some.inj f
  exact q7n w
 rw[if_neg o] at f
 by_cases q:k=6
 ·subst q
  obtain rfl:_=xs:=Option.some.inj f
  exact q7o w
 rw[if_neg q] at f
 by_cases t:k=7
 ·subst t
  obtain rfl:_=xs:=Option.some.inj f
  exact q7p w
 rw[if_neg t] at f
 by_cases v:k=8
 ·subst v
  obtain rfl:_=xs:=Option.some.inj f
  exact q7q w
 rw[if_neg v] at f
 by_cases x:k=9
 ·subst x
  obtain rfl:_=xs:=Option.some.inj f
  exact q7r w
 rw[if_neg x] at f
 cases f
end Go.Proofs.YtjpmomdechibmaaGreatDoor
