/-
  wire.fields (printed by tools/mk_fld.py).
-/
import Derived.Test.YtfmkdoachjgjbaaGreatDoorMbf
set_option linter.unusedVariables false
set_option linter.unusedSimpArgs false
namespace Go.Proofs.YtfmkdoachjgjbaaGreatDoor
open Go.RowKit
def fieldsOf(kind:Int):Option (List Fld) :=
 if kind=1 then some [.ch,.amount] else if kind=2 then some [.ch] else if kind=3 then some [.ch,.id,.amount,.hash,.expiry] else if kind=4 then some [.ch,.id,.hash] else if kind=5 then some [.ch,.id,.number]
 else if kind=6 then some [.ch,.number,.hash] else if kind=7 then some [.ch,.number,.hash] else if kind=8 then some [.ch] else if kind=9 then some [.ch,.number,.id] else none
theorem qew{w:World}{a b:Nat}{e:TypeId}{size:Nat}{v:Value}{n:Nat}{xs:List Value}(h:w.ownsRow b e size v n xs)(m:a≤b):w.ownsRow a e size v n xs:=by
 refine⟨h.1,?_⟩;rcases h.2 with h | ⟨g,cap,f,i,q,r⟩
 ·exact .inl h
 ·exact .inr ⟨g,cap,f,i,by omega,r⟩
def qet(xs:List Fld)(w:World)(e:Ending)(w':World):Prop:=∃v,e = .returned (.tuple #[v,.bool true])∧qq w w'∧FldsO w.heap.size w' v xs
set_option maxRecDepth 100000 in
set_option maxHeartbeats 1000000 in
theorem q4u(w:World):Calls Tryz.prog 137 #[.int .i64 1] w (qet [.ch,.amount] w):=by
 go_enter Tryz.func137,Tryz.ntmps137;go_wp2_with fail;refine(qak 8 169 w).mono ?_;rintro e w1 ⟨_,rfl,C,p1,q1,rfl,a6,b4,f,m⟩;go_wp2_with fail;refine(qak 8 170 w1).mono ?_;rintro e w2 ⟨_,rfl,N,O,P,rfl,a7,b5,q,z⟩;have b8:=C.size;replace f:=N.cell f (fun h=>h);replace m:=N.cell m (fun h=>h);replace C:=C.trans N;clear N;go_wp2_with fail;refine(qar 4 172 w2).mono ?_;rintro e w3 ⟨_,rfl,K,p3,q3,rfl,a8,b6,F,H⟩;have b9:=C.size;replace f:=K.cell f (fun h=>h);replace m:=K.cell m (fun h=>h);replace q:=K.cell q (fun h=>h);replace z:=K.cell z (fun h=>h);replace C:=C.trans K;clear K;go_wp2_with fail;refine(qar 2 173 w3).mono ?_;rintro e R ⟨_,rfl,I,p4,q4,rfl,b3,b7,L,M⟩;have c0:=C.size;replace f:=I.cell f (fun h=>h);replace m:=I.cell m (fun h=>h);replace q:=I.cell q (fun h=>h);replace z:=I.cell z (fun h=>h);replace F:=I.cell F (fun h=>h);replace H:=I.cell H (fun h=>h);replace C:=C.trans I;have c1:=C.size;clear I;go_wp2_with fail;have J:qq R (R.alloc (.cells #[(.func (.func 200) #[] #[.pointer (some ⟨O,0,none⟩),.pointer (some ⟨P,0,none⟩)])] 271)):=(Upd.refl _ _).alloc _;refine(qf0 R.heap.size [(.func (.func 200) #[] #[.pointer (some ⟨O,0,none⟩),.pointer (some ⟨P,0,none⟩)])] _ (qj R (.cells #[(.func (.func 200) #[] #[.pointer (some ⟨O,0,none⟩),.pointer (some ⟨P,0,none⟩)])] 271)) ?one (by show 1≤100;decide)).mono ?_
 case one=>intro v W;simp only[List.mem_cons,List.not_mem_nil,or_false] at W;rcases W with rfl<;>rfl
 rintro e w5 ⟨v,c,rfl,X,U,T⟩;have c2:=J.size;have E:=J.trans X;have HO:=qb (qew U (show w.heap.size≤_ by omega));have Y:=qb (T.later (show w.heap.size≤_ by omega));replace f:=E.cell f (fun h=>h);replace m:=E.cell m (fun h=>h);replace q:=E.cell q (fun h=>h);replace z:=E.cell z (fun h=>h);replace F:=E.cell F (fun h=>h);replace H:=E.cell H (fun h=>h);replace L:=E.cell L (fun h=>h);replace M:=E.cell M (fun h=>h);have Z:=qb (C.trans E);clear C X E J U T;go_wp2_with fail;go_ret2;refine⟨v,rfl,qa Z,⟨_,qa HO,rfl,?_⟩⟩;intro i x u S V;rcases i with _ | _ | _
 ·obtain rfl:_=x:=Option.some.inj S;obtain rfl:_=u:=Option.some.inj V;exact qa Y
 ·obtain rfl:_=x:=Option.some.inj S;obtain rfl:_=u:=Option.some.inj V;exact⟨O,P,rfl,by omega,by omega,q,z⟩
 ·cases S
set_option maxRecDepth 100000 in
set_option maxHeartbeats 1000000 in
theorem q4v(w:World):Calls Tryz.prog 137 #[.int .i64 2] w (qet [.ch] w):=by
 go_enter Tryz.func137,Tryz.ntmps137;go_wp2_with fail;refine(qak 8 169 w).mono ?_;rintro e w1 ⟨_,rfl,C,p1,q1,rfl,X,a7,f,m⟩;go_wp2_with fail;refine(qak 8 170 w1).mono ?_;rintro e w2 ⟨_,rfl,N,p2,q2,rfl,Y,a8,q,z⟩;have b5:=C.size;replace f:=N.cell f (fun h=>h);replace m:=N.cell m (fun h=>h);replace C:=C.trans N;clear N;go_wp2_with fail;refine(qar 4 172 w2).mono ?_;rintro e w3 ⟨_,rfl,K,p3,q3,rfl,Z,b3,F,H⟩;have b6:=C.size;replace f:=K.cell f (fun h=>h);replace m:=K.cell m (fun h=>h);replace q:=K.cell q (fun h=>h);replace z:=K.cell z (fun h=>h);replace C:=C.trans K;clear K;go_wp2_with fail;refine(qar 2 173 w3).mono ?_;rintro e O ⟨_,rfl,I,p4,q4,rfl,a6,b4,L,M⟩;have b7:=C.size;replace f:=I.cell f (fun h=>h);replace m:=I.cell m (fun h=>h);replace q:=I.cell q (fun h=>h);replace z:=I.cell z (fun h=>h);replace F:=I.cell F (fun h=>h);replace H:=I.cell H (fun h=>h);replace C:=C.trans I;have b8:=C.size;clear I;go_wp2_with fail;have J:qq O O:=Upd.refl _ _;refine(qql O).mono ?_;rintro e w5 ⟨v,c,rfl,T,R,P⟩;have b9:=J.size;have E:=J.trans T;have W:=qb (qew R (show w.heap.size≤_ by omega));have U:=qb (P.later (show w.heap.size≤_ by omega));replace f:=E.cell f (fun h=>h);replace m:=E.cell m (fun h=>h);replace q:=E.cell q (fun h=>h);replace z:=E.cell z (fun h=>h);replace F:=E.cell F (fun h=>h);replace H:=E.cell H (fun h=>h);replace L:=E.cell L (fun h=>h);replace M:=E.cell M (fun h=>h);have V:=qb (C.trans E);clear C T E J R P;go_wp2_with fail;go_ret2;refine⟨v,rfl,qa V,⟨_,qa W,rfl,?_⟩⟩
 intro i x u S hu;rcases i with _ | _
 ·obtain rfl:_=x:=Option.some.inj S;obtain rfl:_=u:=Option.some.inj hu;exact qa U
 ·cases S
set_option maxRecDepth 100000 in
set_option maxHeartbeats 1000000 in
theorem q4w(w:World):Calls Tryz.prog 137 #[.int .i64 3] w (qet [.ch,.id,.amount,.hash,.expiry] w):=by
 go_enter Tryz.func137,Tryz.ntmps137;go_wp2_with fail;refine(qak 8 169 w).mono ?_;rintro e w1 ⟨_,rfl,C,R,U,rfl,a6,b4,f,m⟩;go_wp2_with fail;refine(qak 8 170 w1).mono ?_;rintro e w2 ⟨_,rfl,P,S,V,rfl,a7,b5,q,z⟩;have b8:=C.size;replace f:=P.cell f (fun h=>h);replace m:=P.cell m (fun h=>h);replace C:=C.trans P;clear P;go_wp2_with fail;refine(qar 4 172 w2).mono ?_;rintro e w3 ⟨_,rfl,L,T,W,rfl,a8,b6,E,F⟩;have b9:=C.size;replace f:=L.cell f (fun h=>h);replace m:=L.cell m (fun h=>h);replace q:=L.cell q (fun h=>h);replace z:=L.cell z (fun h=>h);replace C:=C.trans L;clear L;go_wp2_with fail;refine(qar 2 173 w3).mono ?_;rintro e X ⟨_,rfl,I,p4,q4,rfl,b3,b7,M,N⟩;have c0:=C.size;replace f:=I.cell f (fun h=>h);replace m:=I.cell m (fun h=>h);replace q:=I.cell q (fun h=>h);replace z:=I.cell z (fun h=>h);replace E:=I.cell E (fun h=>h);replace F:=I.cell F (fun h=>h);replace C:=C.trans I;have c1:=C.size;clear I;go_wp2_with fail;have J:qq X (X.alloc (.cells #[(.func (.func 200) #[] #[.pointer (some ⟨R,0,none⟩),.pointer (some ⟨U,0,none⟩)]),(.func (.func 200) #[] #[.pointer (some ⟨S,0,none⟩),.pointer (some ⟨V,0,none⟩)]),(.func (.func 175) #[] #[]),(.func (.func 201) #[] #[.pointer (some ⟨T,0,none⟩),.pointer (some ⟨W,0,none⟩)])] 271)):=(Upd.refl _ _).alloc _;refine(qf0 X.heap.size [(.func (.func 200) #[] #[.pointer (some ⟨R,0,none⟩),.pointer (some ⟨U,0,none⟩)]),(.func (.func 200) #[] #[.pointer (some ⟨S,0,none⟩),.pointer (some ⟨V,0,none⟩)]),(.func (.func 175) #[] #[]),(.func (.func 201) #[] #[.pointer (some ⟨T,0,none⟩),.pointer (some ⟨W,0,none⟩)])] _ (qj X (.cells #[(.func (.func 200) #[] #[.pointer (some ⟨R,0,none⟩),.pointer (some ⟨U,0,none⟩)]),(.func (.func 200) #[] #[.pointer (some ⟨S,0,none⟩),.pointer (some ⟨V,0,none⟩)]),(.func (.func 175) #[] #[]),(.func (.func 201) #[] #[.pointer (some ⟨T,0,none⟩),.pointer (some ⟨W,0,none⟩)])] 271)) ?one (by show 4≤100;decide)).mono ?_
 case one=>intro v hv;simp only[List.mem_cons,List.not_mem_nil,or_false] at hv;rcases hv with rfl | rfl | rfl | rfl<;>rfl
 rintro e w5 ⟨v,c,rfl,n5,Z,Y⟩;have c2:=J.size;have H:=J.trans n5;have HO:=qb (qew Z (show w.heap.size≤_ by omega));have HC:=qb (Y.later (show w.heap.size≤_ by omega));replace f:=H.cell f (fun h=>h);replace m:=H.cell m (fun h=>h);replace q:=H.cell q (fun h=>h);replace z:=H.cell z (fun h=>h);replace E:=H.cell E (fun h=>h);replace F:=H.cell F (fun h=>h);replace M:=H.cell M (fun h=>h);replace N:=H.cell N (fun h=>h);have HN:=qb (C.trans H);clear C n5 H J Z Y;go_wp2_with fail;go_ret2;refine⟨v,rfl,qa HN,⟨_,qa HO,rfl,?_⟩⟩;intro i x u K O;rcases i with _ | _ | _ | _ | _ | _
 ·obtain rfl:_=x:=Option.some.inj K;obtain rfl:_=u:=Option.some.inj O;exact qa HC
 ·obtain rfl:_=x:=Option.some.inj K;obtain rfl:_=u:=Option.some.inj O;exact⟨R,U,rfl,by omega,by omega,f,m⟩
 ·obtain rfl:_=x:=Option.some.inj K;obtain rfl:_=u:=Option.some.inj O;exact⟨S,V,rfl,by omega,by omega,q,z⟩
 ·obtain rfl:_=x:=Option.some.inj K;obtain rfl:_=u:=Option.some.inj O;exact rfl
 ·obtain rfl:_=x:=Option.some.inj K;obtain rfl:_=u:=Option.some.inj O;exact⟨T,W,rfl,by omega,by omega,E,F⟩
 ·cases K
set_option maxRecDepth 100000 in
set_option maxHeartbeats 1000000 in
theorem q4x(w:World):Calls Tryz.prog 137 #[.int .i64 4] w (qet [.ch,.id,.hash] w):=by
 go_enter Tryz.func137,Tryz.ntmps137;go_wp2_with fail;refine(qak 8 169 w).mono ?_;rintro e w1 ⟨_,rfl,C,P,R,rfl,a6,b4,f,m⟩;go_wp2_with fail;refine(qak 8 170 w1).mono ?_;rintro e w2 ⟨_,rfl,O,p2,q2,rfl,a7,b5,q,z⟩;have b8:=C.size;replace f:=O.cell f (fun h=>h);replace m:=O.cell m (fun h=>h);replace C:=C.trans O;clear O;go_wp2_with fail;refine(qar 4 172 w2).mono ?_;rintro e w3 ⟨_,rfl,K,p3,q3,rfl,a8,b6,F,H⟩;have b9:=C.size;replace f:=K.cell f (fun h=>h);replace m:=K.cell m (fun h=>h);replace q:=K.cell q (fun h=>h);replace z:=K.cell z (fun h=>h);replace C:=C.trans K;clear K;go_wp2_with fail;refine(qar 2 173 w3).mono ?_;rintro e S ⟨_,rfl,I,p4,q4,rfl,b3,b7,L,M⟩;have c0:=C.size;replace f:=I.cell f (fun h=>h);replace m:=I.cell m (fun h=>h);replace q:=I.cell q (fun h=>h);replace z:=I.cell z (fun h=>h);replace F:=I.cell F (fun h=>h);replace H:=I.cell H (fun h=>h);replace C:=C.trans I;have c1:=C.size;clear I;go_wp2_with fail;have J:qq S (S.alloc (.cells #[(.func (.func 200) #[] #[.pointer (some ⟨P,0,none⟩),.pointer (some ⟨R,0,none⟩)]),(.func (.func 175) #[] #[])] 271)):=(Upd.refl _ _).alloc _;refine(qf0 S.heap.size [(.func (.func 200) #[] #[.pointer (some ⟨P,0,none⟩),.pointer (some ⟨R,0,none⟩)]),(.func (.func 175) #[] #[])] _ (qj S (.cells #[(.func (.func 200) #[] #[.pointer (some ⟨P,0,none⟩),.pointer (some ⟨R,0,none⟩)]),(.func (.func 175) #[] #[])] 271)) ?one (by show 2≤100;decide)).mono ?_
 case one=>intro v W;simp only[List.mem_cons,List.not_mem_nil,or_false] at W;rcases W with rfl | rfl<;>rfl
 rintro e w5 ⟨v,c,rfl,X,V,U⟩;have c2:=J.size;have E:=J.trans X;have HO:=qb (qew V (show w.heap.size≤_ by omega));have Y:=qb (U.later (show w.heap.size≤_ by omega));replace f:=E.cell f (fun h=>h);replace m:=E.cell m (fun h=>h);replace q:=E.cell q (fun h=>h);replace z:=E.cell z (fun h=>h);replace F:=E.cell F (fun h=>h);replace H:=E.cell H (fun h=>h);replace L:=E.cell L (fun h=>h);replace M:=E.cell M (fun h=>h);have Z:=qb (C.trans E);clear C X E J V U;go_wp2_with fail;go_ret2;refine⟨v,rfl,qa Z,⟨_,qa HO,rfl,?_⟩⟩;intro i x u N T;rcases i with _ | _ | _ | _
 ·obtain rfl:_=x:=Option.some.inj N;obtain rfl:_=u:=Option.some.inj T;exact qa Y
 ·obtain rfl:_=x:=Option.some.inj N;obtain rfl:_=u:=Option.some.inj T;exact⟨P,R,rfl,by omega,by omega,f,m⟩
 ·obtain rfl:_=x:=Option.some.inj N;obtain rfl:_=u:=Option.some.inj T;exact rfl
 ·cases N
set_option maxRecDepth 100000 in
set_option maxHeartbeats 1000000 in
theorem q4y(w:World):Calls Tryz.prog 137 #[.int .i64 5] w (qet [.ch,.id,.number] w):=by
 go_enter Tryz.func137,Tryz.ntmps137;go_wp2_with fail;refine(qak 8 169 w).mono ?_;rintro e w1 ⟨_,rfl,C,P,S,rfl,a6,b4,f,m⟩;go_wp2_with fail;refine(qak 8 170 w1).mono ?_;rintro e w2 ⟨_,rfl,O,p2,q2,rfl,a7,b5,q,z⟩;have b8:=C.size;replace f:=O.cell f (fun h=>h);replace m:=O.cell m (fun h=>h);replace C:=C.trans O;clear O;go_wp2_with fail;refine(qar 4 172 w2).mono ?_;rintro e w3 ⟨_,rfl,M,p3,q3,rfl,a8,b6,F,H⟩;have b9:=C.size;replace f:=M.cell f (fun h=>h);replace m:=M.cell m (fun h=>h);replace q:=M.cell q (fun h=>h);replace z:=M.cell z (fun h=>h);replace C:=C.trans M;clear M;go_wp2_with fail;refine(qar 2 173 w3).mono ?_;rintro e U ⟨_,rfl,I,R,T,rfl,b3,b7,J,K⟩;have c0:=C.size;replace f:=I.cell f (fun h=>h);replace m:=I.cell m (fun h=>h);replace q:=I.cell q (fun h=>h);replace z:=I.cell z (fun h=>h);replace F:=I.cell F (fun h=>h);replace H:=I.cell H (fun h=>h);replace C:=C.trans I;have c1:=C.size;clear I;go_wp2_with fail;have L:qq U (U.alloc (.cells #[(.func (.func 200) #[] #[.pointer (some ⟨P,0,none⟩),.pointer (some ⟨S,0,none⟩)]),(.func (.func 201) #[] #[.pointer (some ⟨R,0,none⟩),.pointer (some ⟨T,0,none⟩)])] 271)):=(Upd.refl _ _).alloc _;refine(qf0 U.heap.size [(.func (.func 200) #[] #[.pointer (some ⟨P,0,none⟩),.pointer (some ⟨S,0,none⟩)]),(.func (.func 201) #[] #[.pointer (some ⟨R,0,none⟩),.pointer (some ⟨T,0,none⟩)])] _ (qj U (.cells #[(.func (.func 200) #[] #[.pointer (some ⟨P,0,none⟩),.pointer (some ⟨S,0,none⟩)]),(.func (.func 201) #[] #[.pointer (some ⟨R,0,none⟩),.pointer (some ⟨T,0,none⟩)])] 271)) ?one (by show 2≤100;decide)).mono ?_
 case one=>intro v Y;simp only[List.mem_cons,List.not_mem_nil,or_false] at Y;rcases Y with rfl | rfl<;>rfl
 rintro e w5 ⟨v,c,rfl,Z,X,W⟩;have c2:=L.size;have E:=L.trans Z;have HO:=qb (qew X (show w.heap.size≤_ by omega));have HC:=qb (W.later (show w.heap.size≤_ by omega));replace f:=E.cell f (fun h=>h);replace m:=E.cell m (fun h=>h);replace q:=E.cell q (fun h=>h);replace z:=E.cell z (fun h=>h);replace F:=E.cell F (fun h=>h);replace H:=E.cell H (fun h=>h);replace J:=E.cell J (fun h=>h);replace K:=E.cell K (fun h=>h);have HN:=qb (C.trans E);clear C Z E L X W;go_wp2_with fail;go_ret2;refine⟨v,rfl,qa HN,⟨_,qa HO,rfl,?_⟩⟩;intro i x u N V;rcases i with _ | _ | _ | _
 ·obtain rfl:_=x:=Option.some.inj N;obtain rfl:_=u:=Option.some.inj V;exact qa HC
 ·obtain rfl:_=x:=Option.some.inj N;obtain rfl:_=u:=Option.some.inj V;exact⟨P,S,rfl,by omega,by omega,f,m⟩
 ·obtain rfl:_=x:=Option.some.inj N;obtain rfl:_=u:=Option.some.inj V;exact⟨R,T,rfl,by omega,by omega,J,K⟩
 ·cases N
set_option maxRecDepth 100000 in
set_option maxHeartbeats 1000000 in
theorem q4z(w:World):Calls Tryz.prog 137 #[.int .i64 6] w (qet [.ch,.number,.hash] w):=by
 go_enter Tryz.func137,Tryz.ntmps137;go_wp2_with fail;refine(qak 8 169 w).mono ?_;rintro e w1 ⟨_,rfl,C,p1,q1,rfl,a6,b4,f,m⟩;go_wp2_with fail;refine(qak 8 170 w1).mono ?_;rintro e w2 ⟨_,rfl,O,p2,q2,rfl,a7,b5,q,z⟩;have b8:=C.size;replace f:=O.cell f (fun h=>h);replace m:=O.cell m (fun h=>h);replace C:=C.trans O;clear O;go_wp2_with fail;refine(qar 4 172 w2).mono ?_;rintro e w3 ⟨_,rfl,M,p3,q3,rfl,a8,b6,F,H⟩;have b9:=C.size;replace f:=M.cell f (fun h=>h);replace m:=M.cell m (fun h=>h);replace q:=M.cell q (fun h=>h);replace z:=M.cell z (fun h=>h);replace C:=C.trans M;clear M;go_wp2_with fail;refine(qar 2 173 w3).mono ?_;rintro e S ⟨_,rfl,I,P,R,rfl,b3,b7,J,K⟩;have c0:=C.size;replace f:=I.cell f (fun h=>h);replace m:=I.cell m (fun h=>h);replace q:=I.cell q (fun h=>h);replace z:=I.cell z (fun h=>h);replace F:=I.cell F (fun h=>h);replace H:=I.cell H (fun h=>h);replace C:=C.trans I;have c1:=C.size;clear I;go_wp2_with fail;have L:qq S (S.alloc (.cells #[(.func (.func 201) #[] #[.pointer (some ⟨P,0,none⟩),.pointer (some ⟨R,0,none⟩)]),(.func (.func 175) #[] #[])] 271)):=(Upd.refl _ _).alloc _;refine(qf0 S.heap.size [(.func (.func 201) #[] #[.pointer (some ⟨P,0,none⟩),.pointer (some ⟨R,0,none⟩)]),(.func (.func 175) #[] #[])] _ (qj S (.cells #[(.func (.func 201) #[] #[.pointer (some ⟨P,0,none⟩),.pointer (some ⟨R,0,none⟩)]),(.func (.func 175) #[] #[])] 271)) ?one (by show 2≤100;decide)).mono ?_
 case one=>intro v W;simp only[List.mem_cons,List.not_mem_nil,or_false] at W;rcases W with rfl | rfl<;>rfl
 rintro e w5 ⟨v,c,rfl,X,V,U⟩;have c2:=L.size;have E:=L.trans X;have HO:=qb (qew V (show w.heap.size≤_ by omega));have Y:=qb (U.later (show w.heap.size≤_ by omega));replace f:=E.cell f (fun h=>h);replace m:=E.cell m (fun h=>h);replace q:=E.cell q (fun h=>h);replace z:=E.cell z (fun h=>h);replace F:=E.cell F (fun h=>h);replace H:=E.cell H (fun h=>h);replace J:=E.cell J (fun h=>h);replace K:=E.cell K (fun h=>h);have Z:=qb (C.trans E);clear C X E L V U;go_wp2_with fail;go_ret2;refine⟨v,rfl,qa Z,⟨_,qa HO,rfl,?_⟩⟩;intro i x u N T;rcases i with _ | _ | _ | _
 ·obtain rfl:_=x:=Option.some.inj N;obtain rfl:_=u:=Option.some.inj T;exact qa Y
 ·obtain rfl:_=x:=Option.some.inj N;obtain rfl:_=u:=Option.some.inj T;exact⟨P,R,rfl,by omega,by omega,J,K⟩
 ·obtain rfl:_=x:=Option.some.inj N;obtain rfl:_=u:=Option.some.inj T;exact rfl
 ·cases N
set_option maxRecDepth 100000 in
set_option maxHeartbeats 1000000 in
theorem q40(w:World):Calls Tryz.prog 137 #[.int .i64 7] w (qet [.ch,.number,.hash] w):=by
 go_enter Tryz.func137,Tryz.ntmps137;go_wp2_with fail;refine(qak 8 169 w).mono ?_;rintro e w1 ⟨_,rfl,C,p1,q1,rfl,a6,b4,f,m⟩;go_wp2_with fail;refine(qak 8 170 w1).mono ?_;rintro e w2 ⟨_,rfl,O,p2,q2,rfl,a7,b5,q,z⟩;have b8:=C.size;replace f:=O.cell f (fun h=>h);replace m:=O.cell m (fun h=>h);replace C:=C.trans O;clear O;go_wp2_with fail;refine(qar 4 172 w2).mono ?_;rintro e w3 ⟨_,rfl,M,p3,q3,rfl,a8,b6,F,H⟩;have b9:=C.size;replace f:=M.cell f (fun h=>h);replace m:=M.cell m (fun h=>h);replace q:=M.cell q (fun h=>h);replace z:=M.cell z (fun h=>h);replace C:=C.trans M;clear M;go_wp2_with fail;refine(qar 2 173 w3).mono ?_;rintro e S ⟨_,rfl,I,P,R,rfl,b3,b7,J,K⟩;have c0:=C.size;replace f:=I.cell f (fun h=>h);replace m:=I.cell m (fun h=>h);replace q:=I.cell q (fun h=>h);replace z:=I.cell z (fun h=>h);replace F:=I.cell F (fun h=>h);replace H:=I.cell H (fun h=>h);replace C:=C.trans I;have c1:=C.size;clear I;go_wp2_with fail;have L:qq S (S.alloc (.cells #[(.func (.func 201) #[] #[.pointer (some ⟨P,0,none⟩),.pointer (some ⟨R,0,none⟩)]),(.func (.func 175) #[] #[])] 271)):=(Upd.refl _ _).alloc _;refine(qf0 S.heap.size [(.func (.func 201) #[] #[.pointer (some ⟨P,0,none⟩),.pointer (some ⟨R,0,none⟩)]),(.func (.func 175) #[] #[])] _ (qj S (.cells #[(.func (.func 201) #[] #[.pointer (some ⟨P,0,none⟩),.pointer (some ⟨R,0,none⟩)]),(.func (.func 175) #[] #[])] 271)) ?one (by show 2≤100;decide)).mono ?_
 case one=>intro v W;simp only[List.mem_cons,List.not_mem_nil,or_false] at W;rcases W with rfl | rfl<;>rfl
 rintro e w5 ⟨v,c,rfl,X,V,U⟩;have c2:=L.size;have E:=L.trans X;have HO:=qb (qew V (show w.heap.size≤_ by omega));have Y:=qb (U.later (show w.heap.size≤_ by omega));replace f:=E.cell f (fun h=>h);replace m:=E.cell m (fun h=>h);replace q:=E.cell q (fun h=>h);replace z:=E.cell z (fun h=>h);replace F:=E.cell F (fun h=>h);replace H:=E.cell H (fun h=>h);replace J:=E.cell J (fun h=>h);replace K:=E.cell K (fun h=>h);have Z:=qb (C.trans E);clear C X E L V U;go_wp2_with fail;go_ret2;refine⟨v,rfl,qa Z,⟨_,qa HO,rfl,?_⟩⟩;intro i x u N T;rcases i with _ | _ | _ | _
 ·obtain rfl:_=x:=Option.some.inj N;obtain rfl:_=u:=Option.some.inj T;exact qa Y
 ·obtain rfl:_=x:=Option.some.inj N;obtain rfl:_=u:=Option.some.inj T;exact⟨P,R,rfl,by omega,by omega,J,K⟩
 ·obtain rfl:_=x:=Option.some.inj N;obtain rfl:_=u:=Option.some.inj T;exact rfl
 ·cases N
set_option maxRecDepth 100000 in
set_option maxHeartbeats 1000000 in
theorem q41(w:World):Calls Tryz.prog 137 #[.int .i64 8] w (qet [.ch] w):=by
 go_enter Tryz.func137,Tryz.ntmps137;go_wp2_with fail;refine(qak 8 169 w).mono ?_;rintro e w1 ⟨_,rfl,C,p1,q1,rfl,X,a7,f,m⟩;go_wp2_with fail;refine(qak 8 170 w1).mono ?_;rintro e w2 ⟨_,rfl,N,p2,q2,rfl,Y,a8,q,z⟩;have b5:=C.size;replace f:=N.cell f (fun h=>h);replace m:=N.cell m (fun h=>h);replace C:=C.trans N;clear N;go_wp2_with fail;refine(qar 4 172 w2).mono ?_;rintro e w3 ⟨_,rfl,K,p3,q3,rfl,Z,b3,F,H⟩;have b6:=C.size;replace f:=K.cell f (fun h=>h);replace m:=K.cell m (fun h=>h);replace q:=K.cell q (fun h=>h);replace z:=K.cell z (fun h=>h);replace C:=C.trans K;clear K;go_wp2_with fail;refine(qar 2 173 w3).mono ?_;rintro e O ⟨_,rfl,I,p4,q4,rfl,a6,b4,L,M⟩;have b7:=C.size;replace f:=I.cell f (fun h=>h);replace m:=I.cell m (fun h=>h);replace q:=I.cell q (fun h=>h);replace z:=I.cell z (fun h=>h);replace F:=I.cell F (fun h=>h);replace H:=I.cell H (fun h=>h);replace C:=C.trans I;have b8:=C.size;clear I;go_wp2_with fail;have J:qq O O:=Upd.refl _ _;refine(qql O).mono ?_;rintro e w5 ⟨v,c,rfl,T,R,P⟩;have b9:=J.size;have E:=J.trans T;have W:=qb (qew R (show w.heap.size≤_ by omega));have U:=qb (P.later (show w.heap.size≤_ by omega));replace f:=E.cell f (fun h=>h);replace m:=E.cell m (fun h=>h);replace q:=E.cell q (fun h=>h);replace z:=E.cell z (fun h=>h);replace F:=E.cell F (fun h=>h);replace H:=E.cell H (fun h=>h);replace L:=E.cell L (fun h=>h);replace M:=E.cell M (fun h=>h);have V:=qb (C.trans E);clear C T E J R P;go_wp2_with fail;go_ret2;refine⟨v,rfl,qa V,⟨_,qa W,rfl,?_⟩⟩
 intro i x u S hu;rcases i with _ | _
 ·obtain rfl:_=x:=Option.some.inj S;obtain rfl:_=u:=Option.some.inj hu;exact qa U
 ·cases S
set_option maxRecDepth 100000 in
set_option maxHeartbeats 1000000 in
theorem q42(w:World):Calls Tryz.prog 137 #[.int .i64 9] w (qet [.ch,.number,.id] w):=by
 go_enter Tryz.func137,Tryz.ntmps137;go_wp2_with fail;refine(qak 8 169 w).mono ?_;rintro e w1 ⟨_,rfl,C,P,S,rfl,a6,b4,f,m⟩;go_wp2_with fail;refine(qak 8 170 w1).mono ?_;rintro e w2 ⟨_,rfl,O,p2,q2,rfl,a7,b5,q,z⟩;have b8:=C.size;replace f:=O.cell f (fun h=>h);replace m:=O.cell m (fun h=>h);replace C:=C.trans O;clear O;go_wp2_with fail;refine(qar 4 172 w2).mono ?_;rintro e w3 ⟨_,rfl,M,p3,q3,rfl,a8,b6,F,H⟩;have b9:=C.size;replace f:=M.cell f (fun h=>h);replace m:=M.cell m (fun h=>h);replace q:=M.cell q (fun h=>h);replace z:=M.cell z (fun h=>h);replace C:=C.trans M;clear M;go_wp2_with fail;refine(qar 2 173 w3).mono ?_;rintro e U ⟨_,rfl,I,R,T,rfl,b3,b7,J,K⟩;have c0:=C.size;replace f:=I.cell f (fun h=>h);replace m:=I.cell m (fun h=>h);replace q:=I.cell q (fun h=>h);replace z:=I.cell z (fun h=>h);replace F:=I.cell F (fun h=>h);replace H:=I.cell H (fun h=>h);replace C:=C.trans I;have c1:=C.size;clear I;go_wp2_with fail;have L:qq U (U.alloc (.cells #[(.func (.func 201) #[] #[.pointer (some ⟨R,0,none⟩),.pointer (some ⟨T,0,none⟩)]),(.func (.func 200) #[] #[.pointer (some ⟨P,0,none⟩),.pointer (some ⟨S,0,none⟩)])] 271)):=(Upd.refl _ _).alloc _;refine(qf0 U.heap.size [(.func (.func 201) #[] #[.pointer (some ⟨R,0,none⟩),.pointer (some ⟨T,0,none⟩)]),(.func (.func 200) #[] #[.pointer (some ⟨P,0,none⟩),.pointer (some ⟨S,0,none⟩)])] _ (qj U (.cells #[(.func (.func 201) #[] #[.pointer (some ⟨R,0,none⟩),.pointer (some ⟨T,0,none⟩)]),(.func (.func 200) #[] #[.pointer (some ⟨P,0,none⟩),.pointer (some ⟨S,0,none⟩)])] 271)) ?one (by show 2≤100;decide)).mono ?_
 case one=>intro v Y;simp only[List.mem_cons,List.not_mem_nil,or_false] at Y;rcases Y with rfl | rfl<;>rfl
 rintro e w5 ⟨v,c,rfl,Z,X,W⟩;have c2:=L.size;have E:=L.trans Z;have HO:=qb (qew X (show w.heap.size≤_ by omega));have HC:=qb (W.later (show w.heap.size≤_ by omega));replace f:=E.cell f (fun h=>h);replace m:=E.cell m (fun h=>h);replace q:=E.cell q (fun h=>h);replace z:=E.cell z (fun h=>h);replace F:=E.cell F (fun h=>h);replace H:=E.cell H (fun h=>h);replace J:=E.cell J (fun h=>h);replace K:=E.cell K (fun h=>h);have HN:=qb (C.trans E);clear C Z E L X W;go_wp2_with fail;go_ret2;refine⟨v,rfl,qa HN,⟨_,qa HO,rfl,?_⟩⟩;intro i x u N V;rcases i with _ | _ | _ | _
 ·obtain rfl:_=x:=Option.some.inj N;obtain rfl:_=u:=Option.some.inj V;exact qa HC
 ·obtain rfl:_=x:=Option.some.inj N;obtain rfl:_=u:=Option.some.inj V;exact⟨R,T,rfl,by omega,by omega,J,K⟩
 ·obtain rfl:_=x:=Option.some.inj N;obtain rfl:_=u:=Option.some.inj V;exact⟨P,S,rfl,by omega,by omega,f,m⟩
 ·cases N
set_option maxRecDepth 100000 in
set_option maxHeartbeats 1000000 in
theorem qmk(k:Int)(J:fieldsOf k=none)(w:World):Calls Tryz.prog 137 #[.int .i64 k] w (qa5 (.tuple #[qco,.bool false]) w):=by
 have I:¬k=1∧¬k=2∧¬k=3∧¬k=4∧¬k=5∧¬k=6∧¬k=7∧¬k=8∧¬k=9:=by
  refine⟨?_,?_,?_,?_,?_,?_,?_,?_,?_⟩<;>(rintro rfl;cases J)
 obtain⟨e1,e2,e3,e4,e5,e6,e7,e8,e9⟩:=I;clear J;go_enter Tryz.func137,Tryz.ntmps137;go_wp2_with fail;refine(qak 8 169 w).mono ?_;rintro e w1 ⟨_,rfl,m,p1,q1,rfl,M,R,f,i⟩;go_wp2_with fail;refine(qak 8 170 w1).mono ?_;rintro e Z ⟨_,rfl,H,p2,q2,rfl,N,S,q,v⟩;have V:=m.size;replace f:=H.cell f (fun h=>h);replace i:=H.cell i (fun h=>h);replace m:=m.trans H;clear H;go_wp2_with fail;refine(qar 4 172 Z).mono ?_;rintro e w3 ⟨_,rfl,C,p3,q3,rfl,O,T,E,F⟩;have W:=m.size;replace f:=C.cell f (fun h=>h);replace i:=C.cell i (fun h=>h);replace q:=C.cell q (fun h=>h);replace v:=C.cell v (fun h=>h);replace m:=m.trans C;clear C;go_wp2_with fail;refine(qar 2 173 w3).mono ?_;rintro e w4 ⟨_,rfl,z,p4,q4,rfl,P,U,K,L⟩;have X:=m.size;replace f:=z.cell f (fun h=>h);replace i:=z.cell i (fun h=>h);replace q:=z.cell q (fun h=>h);replace v:=z.cell v (fun h=>h);replace E:=z.cell E (fun h=>h);replace F:=z.cell F (fun h=>h);replace m:=m.trans z;have Y:=m.size;clear z;go_wp2_with fail;go_ret2;exact⟨rfl,m⟩
theorem qj3(k:Int)(xs:List Fld)(f:fieldsOf k=some xs)(w:World):Calls Tryz.prog 137 #[.int .i64 k] w (qet xs w):=by
 unfold fieldsOf at f;by_cases i:k=1
 ·subst i;obtain rfl:_=xs:=Option.some.inj f;exact q4u w
 rw[if_neg i] at f;by_cases m:k=2
 ·subst m;obtain rfl:_=xs:=Option.some.inj f;exact q4v w
 rw[if_neg m] at f;by_cases q:k=3
 ·subst q;obtain rfl:_=xs:=Option.some.inj f;exact q4w w
 rw[if_neg q] at f;by_cases v:k=4
 ·subst v;obtain rfl:_=xs:=Option.some.inj f;exact q4x w
 rw[if_neg v] at f;by_cases z:k=5
 ·subst z;obtain rfl:_=xs:=Option.some.inj f;exact q4y w
 rw[if_neg z] at f;by_cases C:k=6
 ·subst C;obtain rfl:_=xs:=Option.some.inj f;exact q4z w
 rw[if_neg C] at f;by_cases E:k=7
 ·subst E;obtain rfl:_=xs:=Option.some.inj f;exact q40 w
 rw[if_neg E] at f;by_cases F:k=8
 ·subst F;obtain rfl:_=xs:=Option.some.inj f;exact q41 w
 rw[if_neg F] at f;by_cases H:k=9
 ·subst H;obtain rfl:_=xs:=Option.some.inj f;exact q42 w
 rw[if_neg H] at f;cases f
end Go.Proofs.YtfmkdoachjgjbaaGreatDoor
