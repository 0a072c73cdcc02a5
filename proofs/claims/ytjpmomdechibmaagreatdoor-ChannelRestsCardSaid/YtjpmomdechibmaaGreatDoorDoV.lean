/-
  Law 13: does, walked: Offer, Fulfill, Fail (printed by tools/mk_dow.py).
-/
import Derived.Test.YtjpmomdechibmaaGreatDoorMed
set_option linter.unusedVariables false
set_option linter.unusedSimpArgs false
namespace Go.Proofs.YtjpmomdechibmaaGreatDoor
open Go.RowKit
attribute [local go_sem ↓ high] qaa qap qar qa1 qab qac qag qah
attribute [local go_sem] qcx qdn qdt zq qcy qc0 qc2 qbn
abbrev zao(p k gk B:Nat)(N id ex f:Int)(w:World):Prop:=w.cell? ⟨p,k,none⟩=some (.pointer (some ⟨gk,0,none⟩))∧w.cell? ⟨B,2,none⟩=some (.int .i64 ex)∧w.cell? ⟨B,3,none⟩=some (.int .u64 N)∧w.cell? ⟨B,4,none⟩=some (.int .u64 id)∧w.cell? ⟨B,5,none⟩=some (.int .u8 f)
theorem qbc{w0 w:World}{p:Nat}{g:Nat→Nat}{P:Pr}{Ks:List Kp}{k B:Nat}{x:ActV}(o:k<2)(h:PrK w0 w p g P Ks)(q:ql6 B x∈Ks):zao p k (g k) B x.n x.id x.expiry x.p w:=by
 obtain⟨-,-,f,i,l,m⟩:=qei (h.kept q)
 exact⟨h.cell o,f,i,l,m⟩
theorem PrK.drop2{w0 w:World}{p:Nat}{g:Nat→Nat}{P:Pr}{Ks:List Kp}{q r:Kp}(h:PrK w0 w p g P (q::r::Ks)):PrK w0 w p g P (q::Ks):=by
 obtain⟨S,i,l,C,D,x,m,o,t,v⟩:=h
 have f:(q::Ks).Sublist (q::r::Ks):=List.Sublist.cons_cons q (List.sublist_cons_self r Ks)
 exact⟨S,i,l,C,D,x,m,o,fun y z=>t y (f.subset z),v.sublist (f.map _)⟩
section
variable {w0 w:World}{p:Nat}{g:Nat→Nat}{P:Pr}
set_option maxRecDepth 100000 in
set_option maxHeartbeats 4000000 in
theorem q35(hT:Tb w0)(H:PrK w0 w p g P [])(x:ActV)(U:x.Ok)(O:x.kind=3)(k:Nat)(K:x.k=k)(r:Ch × MsgV × Int)(Y:(P.en k).fail x.id x.expiry=r)(z:(P.en k).news.length<1000000∧(P.en k).xs.length<1000000)(F:MsgOk r.2.1)(R:P.wa.length<1000000∧P.wb.length<1000000) :
  Calls Tryz.prog 32 #[.pointer (some ⟨p,0,none⟩),.agg x.cells.toArray] w fun e w'=>e = .returned (.tuple #[])∧∃g',PrK w0 w' p g' (P.act k r) []:=by
 have C:k<2:=K▸x.k_lt
 have o:=F.len
 have T:=qf6 x.side
 rw[show (x.side%2).toNat=x.k from rfl,K] at T
 go_enter Tryz.func32,Tryz.ntmps32
 go_upto_region 1 with fail
 have v:=H.alloc x.cells.toArray 75
 generalize w.alloc (.cells x.cells.toArray 75)=w1 at v ⊢
 generalize w.heap.size=B at v ⊢
 obtain⟨c0,c1,-,-,-,-⟩:=qei (x:=x) v.one
 have c2:=qbc C (v.new ((Upd.refl (fun _=>False) w1).drew)) (List.mem_cons_self ..)
 have L:=U.n
 have J:=U.id
 have M:=U.p
 have I:=U.expiry
 obtain⟨kd,sd,ex,N,id,pb,rest⟩:=x
 simp only at O c0 c1 T L J M I Y
 have HX:=qb (And.intro L (And.intro J (And.intro M I)))
 have a5:(k:Int)<2:=by omega
 have HT:=qb (show (P.set k r.1).wa.length<1000000∧(P.set k r.1).wb.length<1000000 by rw[(qci _ _ _).1,(qci _ _ _).2];exact R)
 have HM:=qb F
 have v:=qb v
 have E:∀ {y:ActV},ql6 B y∈[ql6 B y]:=List.mem_cons_self ..
 have l:∀ {y:ActV} {q:Kp},ql6 B y∈[q,ql6 B y]:=List.mem_cons_of_mem _ (List.mem_cons_self ..)
 obtain⟨c',m,e⟩:=r
 simp only at o
 clear H R F K U L J M I
 subst O
 all_goals
  go_upto_region 11 with (with_reducible first|(first|refine' zr (qg ?_) ?_|refine' zt (qg ?_) ?_);rotate_left|refine' zu (qg ?_)|rfl|apply tn|refine' zv ?_)
  go_cut [9,10] from 72 to 85 (fun kv ev wx=>∃Km,kv = .pointer (some ⟨Km,0,none⟩)∧ev = .int .i64 e∧PrK w0 wx p g (P.set k c') [(Km,m.cells.toArray,30)])
  case first =>
   refine qb5 (zao p k (g k) B N id ex pb) [5,7,9] (.fork (.of [14,0,1,2,3,4,5,6,7,8,9,10,11,12,13,15,16]) (.of [0,1,2,3,4,5,6,7,8,9,10,11,12,13,14,15,16])) (by kernel_rfl) (by kernel_rfl) c2 ?_
   simp only[Plan.of,Plan.pre]
   skip
   refine qf ?_ ?_
   ·go_wp2_with (with_reducible first|(first|refine' qw1 (qg ?_) ?_|refine' qw2 (qg ?_) ?_|refine' qw3 (qg ?_) ?_);rotate_left|refine' qw4 (qg ?_)|refine' qw5 (qg ?_)|rfl|apply qn)
    have t:=((qa v).alloc MsgV.zero.cells.toArray 30).new ((Upd.refl (fun _=>False) (w1.alloc (.cells MsgV.zero.cells.toArray 30))).drew)
    have W:=qbc C t l
    first | refine⟨W,?_⟩ | skip
    generalize (w1.alloc (.cells MsgV.zero.cells.toArray 30)).drew=a7 at W t ⊢
    generalize w1.heap.size=K3 at t ⊢
    have t:=qb t
    try go_wp2_with (with_reducible first|(first|refine' qw1 (qg ?_) ?_|refine' qw2 (qg ?_) ?_|refine' qw3 (qg ?_) ?_);rotate_left|refine' qw4 (qg ?_)|refine' qw5 (qg ?_)|rfl|apply qn)
    have f:=q2p hT (qa t) C id ex z.1
    rw[Y] at f
    refine f.mono ?_
    rintro ee w4 ⟨rfl,i⟩
    have X:=qbc C i l
    have i:=qb i
    clear f
    have a4:=(MsB.mk (qa i).one qo).stOk o
    have Z:=qb ((qa i).put qo o)
    go_wp2_with (first | (with_reducible first|(first|refine' qw1 (qg ?_) ?_|refine' qw2 (qg ?_) ?_|refine' qw3 (qg ?_) ?_);rotate_left|refine' qw4 (qg ?_)|refine' qw5 (qg ?_)|rfl|apply qn) | refine⟨X,?_⟩)
    go_meet
    case rel=>exact⟨K3,rfl,rfl,(qa Z).drop2⟩
   ·go_wp2_with (with_reducible first|(first|refine' qw1 (qg ?_) ?_|refine' qw2 (qg ?_) ?_|refine' qw3 (qg ?_) ?_);rotate_left|refine' qw4 (qg ?_)|refine' qw5 (qg ?_)|rfl|apply qn)
    have f:=q2p hT ((qa v).new ((Upd.refl (fun _=>False) w1).drew)) C id ex z.1
    rw[Y] at f
    refine f.mono ?_
    rintro ee V ⟨rfl,t⟩
    have W:=qbc C t E
    have t:=qb t
    clear f
    go_wp2_with (first | (with_reducible first|(first|refine' qw1 (qg ?_) ?_|refine' qw2 (qg ?_) ?_|refine' qw3 (qg ?_) ?_);rotate_left|refine' qw4 (qg ?_)|refine' qw5 (qg ?_)|rfl|apply qn) | refine⟨W,?_⟩)
    have i:=((qa t).alloc MsgV.zero.cells.toArray 30)
    have X:=qbc C i l
    go_wp2_with (with_reducible first|(first|refine' qw1 (qg ?_) ?_|refine' qw2 (qg ?_) ?_|refine' qw3 (qg ?_) ?_);rotate_left|refine' qw4 (qg ?_)|refine' qw5 (qg ?_)|rfl|apply qn)
    first | refine⟨X,?_⟩ | skip
    generalize (V.alloc (.cells MsgV.zero.cells.toArray 30))=a8 at X i ⊢
    generalize V.heap.size=K4 at i ⊢
    have i:=qb i
    have a4:=(MsB.mk (qa i).one qo).stOk o
    have Z:=qb ((qa i).put qo o)
    try go_wp2_with (with_reducible first|(first|refine' qw1 (qg ?_) ?_|refine' qw2 (qg ?_) ?_|refine' qw3 (qg ?_) ?_);rotate_left|refine' qw4 (qg ?_)|refine' qw5 (qg ?_)|rfl|apply qn)
    go_meet
    case rel=>exact⟨K4,rfl,rfl,(qa Z).drop2⟩
  case rest =>
   obtain⟨Km,rfl,rfl,hX⟩:=hcut
   obtain⟨V,rfl⟩:∃V:World,V=wc:=⟨_,rfl⟩
   have a6:=(MsB.mk hX.one o).row
   have D:=qop hX C m e (qa HM) (qa HT)
   clear hX c2 Y
   go_wp2_with (with_reducible first|(first|refine' zr (qg ?_) ?_|refine' zt (qg ?_) ?_);rotate_left|refine' zu (qg ?_)|rfl|apply tn|refine' zv ?_)
   refine D.mono ?_
   rintro ee w4 ⟨rfl,g',i⟩
   have i:=qb i.drop
   clear D
   go_wp2_with (with_reducible first|(first|refine' zr (qg ?_) ?_|refine' zt (qg ?_) ?_);rotate_left|refine' zu (qg ?_)|rfl|apply tn|refine' zv ?_)
   first | go_end0 | go_ret
   exact⟨rfl,g',qa i⟩
set_option maxRecDepth 100000 in
set_option maxHeartbeats 4000000 in
theorem quw(hT:Tb w0)(H:PrK w0 w p g P [])(x:ActV)(hx:x.Ok)(Y:x.kind=2)(k:Nat)(L:x.k=k)(r:Ch × MsgV × Int)(hr:(P.en k).fulfill x.id (qfw x.p)=r)(C:(P.en k).news.length<1000000∧(P.en k).xs.length<1000000)(I:MsgOk r.2.1)(Z:P.wa.length<1000000∧P.wb.length<1000000) :
  Calls Tryz.prog 32 #[.pointer (some ⟨p,0,none⟩),.agg x.cells.toArray] w fun e w'=>e = .returned (.tuple #[])∧∃g',PrK w0 w' p g' (P.act k r) []:=by
 have v:k<2:=L▸x.k_lt
 have t:=I.len
 have a4:=qf6 x.side
 rw[show (x.side%2).toNat=x.k from rfl,L] at a4
 go_enter Tryz.func32,Tryz.ntmps32
 go_upto_region 1 with fail
 have E:=H.alloc x.cells.toArray 75
 generalize w.alloc (.cells x.cells.toArray 75)=w1 at E ⊢
 generalize w.heap.size=B at E ⊢
 obtain⟨c0,c1,-,-,-,-⟩:=qei (x:=x) E.one
 have c2:=qbc v (E.new ((Upd.refl (fun _=>False) w1).drew)) (List.mem_cons_self ..)
 have M:=hx.n
 have K:=hx.id
 have O:=hx.p
 have J:=hx.expiry
 obtain⟨kd,sd,ex,N,id,U,rest⟩:=x
 simp only at Y c0 c1 a4 M K O J hr
 have HX:=qb (And.intro M (And.intro K (And.intro O J)))
 have a7:(k:Int)<2:=by omega
 have HT:=qb (show (P.set k r.1).wa.length<1000000∧(P.set k r.1).wb.length<1000000 by rw[(qci _ _ _).1,(qci _ _ _).2];exact Z)
 have HM:=qb I
 have E:=qb E
 have D:∀ {y:ActV},ql6 B y∈[ql6 B y]:=List.mem_cons_self ..
 have i:∀ {y:ActV} {q:Kp},ql6 B y∈[q,ql6 B y]:=List.mem_cons_of_mem _ (List.mem_cons_self ..)
 obtain⟨c',m,e⟩:=r
 simp only at t
 clear H Z I L hx M K O J
 subst Y
 all_goals
  go_upto_region 8 with (with_reducible first|(first|refine' zr (qg ?_) ?_|refine' zt (qg ?_) ?_);rotate_left|refine' zu (qg ?_)|rfl|apply tn|refine' zv ?_)
  go_cut [7,8] from 50 to 64 (fun kv ev wx=>∃Km,kv = .pointer (some ⟨Km,0,none⟩)∧ev = .int .i64 e∧PrK w0 wx p g (P.set k c') [(Km,m.cells.toArray,30)])
  case first =>
   refine qb5 (zao p k (g k) B N id ex U) [5,7,9] (.fork (.of [15,0,1,2,3,4,5,6,7,8,9,10,11,12,13,14,16,17]) (Plan.pre [0,1,2,3,4,5,6,7,8,9,10] (.fork (.of [15,11,12,13,14,16,17]) (.of [11,12,13,14,15,16,17])))) (by kernel_rfl) (by kernel_rfl) c2 ?_
   simp only[Plan.of,Plan.pre]
   skip
   refine qf ?_ ?_
   ·go_wp2_with (with_reducible first|(first|refine' qw1 (qg ?_) ?_|refine' qw2 (qg ?_) ?_|refine' qw3 (qg ?_) ?_);rotate_left|refine' qw4 (qg ?_)|refine' qw5 (qg ?_)|rfl|apply qn)
    have z:=((qa E).alloc MsgV.zero.cells.toArray 30).new ((Upd.refl (fun _=>False) (w1.alloc (.cells MsgV.zero.cells.toArray 30))).drew)
    have c3:=qbc v z i
    first | refine⟨c3,?_⟩ | skip
    generalize (w1.alloc (.cells MsgV.zero.cells.toArray 30)).drew=a6 at c3 z ⊢
    generalize w1.heap.size=K3 at z ⊢
    have z:=qb z
    try go_wp2_with (with_reducible first|(first|refine' qw1 (qg ?_) ?_|refine' qw2 (qg ?_) ?_|refine' qw3 (qg ?_) ?_);rotate_left|refine' qw4 (qg ?_)|refine' qw5 (qg ?_)|rfl|apply qn)
    refine((fun W=>qfb U (qa HX).2.2.1 W) a6).mono ?_
    rintro X w4 ⟨rfl,n4⟩
    have l:=(qa z).new n4
    have R:=qbc v l i
    have l:=qb l
    go_wp2_with (first | (with_reducible first|(first|refine' qw1 (qg ?_) ?_|refine' qw2 (qg ?_) ?_|refine' qw3 (qg ?_) ?_);rotate_left|refine' qw4 (qg ?_)|refine' qw5 (qg ?_)|rfl|apply qn) | refine⟨R,?_⟩)
    have f:=qp9 hT (qa l) v id (qfw U) (qee _) C.1
    rw[hr] at f
    refine f.mono ?_
    rintro X w5 ⟨rfl,o⟩
    have T:=qbc v o i
    have o:=qb o
    clear f
    have a5:=(MsB.mk (qa o).one qo).stOk t
    have V:=qb ((qa o).put qo t)
    go_wp2_with (first | (with_reducible first|(first|refine' qw1 (qg ?_) ?_|refine' qw2 (qg ?_) ?_|refine' qw3 (qg ?_) ?_);rotate_left|refine' qw4 (qg ?_)|refine' qw5 (qg ?_)|rfl|apply qn) | refine⟨T,?_⟩)
    go_meet
    case rel=>exact⟨K3,rfl,rfl,(qa V).drop2⟩
   ·go_wp2_with (with_reducible first|(first|refine' qw1 (qg ?_) ?_|refine' qw2 (qg ?_) ?_|refine' qw3 (qg ?_) ?_);rotate_left|refine' qw4 (qg ?_)|refine' qw5 (qg ?_)|rfl|apply qn)
    refine((fun W=>qfb U (qa HX).2.2.1 W) w1.drew).mono ?_
    rintro X w3 ⟨rfl,n3⟩
    have z:=(qa E).new n3.ofDrew
    have c3:=qbc v z D
    have z:=qb z
    go_wp2_with (first | (with_reducible first|(first|refine' qw1 (qg ?_) ?_|refine' qw2 (qg ?_) ?_|refine' qw3 (qg ?_) ?_);rotate_left|refine' qw4 (qg ?_)|refine' qw5 (qg ?_)|rfl|apply qn) | refine⟨c3,?_⟩)
    refine qf ?_ ?_
    ·go_wp2_with (with_reducible first|(first|refine' qw1 (qg ?_) ?_|refine' qw2 (qg ?_) ?_|refine' qw3 (qg ?_) ?_);rotate_left|refine' qw4 (qg ?_)|refine' qw5 (qg ?_)|rfl|apply qn)
     have l:=((qa z).alloc MsgV.zero.cells.toArray 30)
     have R:=qbc v l i
     first | refine⟨R,?_⟩ | skip
     generalize (w3.alloc (.cells MsgV.zero.cells.toArray 30))=a9 at R l ⊢
     generalize w3.heap.size=K4 at l ⊢
     have l:=qb l
     try go_wp2_with (with_reducible first|(first|refine' qw1 (qg ?_) ?_|refine' qw2 (qg ?_) ?_|refine' qw3 (qg ?_) ?_);rotate_left|refine' qw4 (qg ?_)|refine' qw5 (qg ?_)|rfl|apply qn)
     have f:=qp9 hT (qa l) v id (qfw U) (qee _) C.1
     rw[hr] at f
     refine f.mono ?_
     rintro X w5 ⟨rfl,o⟩
     have T:=qbc v o i
     have o:=qb o
     clear f
     have a5:=(MsB.mk (qa o).one qo).stOk t
     have V:=qb ((qa o).put qo t)
     go_wp2_with (first | (with_reducible first|(first|refine' qw1 (qg ?_) ?_|refine' qw2 (qg ?_) ?_|refine' qw3 (qg ?_) ?_);rotate_left|refine' qw4 (qg ?_)|refine' qw5 (qg ?_)|rfl|apply qn) | refine⟨T,?_⟩)
     go_meet
     case rel=>exact⟨K4,rfl,rfl,(qa V).drop2⟩
    ·go_wp2_with (with_reducible first|(first|refine' qw1 (qg ?_) ?_|refine' qw2 (qg ?_) ?_|refine' qw3 (qg ?_) ?_);rotate_left|refine' qw4 (qg ?_)|refine' qw5 (qg ?_)|rfl|apply qn)
     have f:=qp9 hT (qa z) v id (qfw U) (qee _) C.1
     rw[hr] at f
     refine f.mono ?_
     rintro X w4 ⟨rfl,l⟩
     have R:=qbc v l D
     have l:=qb l
     clear f
     go_wp2_with (first | (with_reducible first|(first|refine' qw1 (qg ?_) ?_|refine' qw2 (qg ?_) ?_|refine' qw3 (qg ?_) ?_);rotate_left|refine' qw4 (qg ?_)|refine' qw5 (qg ?_)|rfl|apply qn) | refine⟨R,?_⟩)
     have o:=((qa l).alloc MsgV.zero.cells.toArray 30)
     have T:=qbc v o i
     first | refine⟨T,?_⟩ | skip
     generalize (w4.alloc (.cells MsgV.zero.cells.toArray 30))=b3 at T o ⊢
     generalize w4.heap.size=K5 at o ⊢
     have o:=qb o
     have a5:=(MsB.mk (qa o).one qo).stOk t
     have V:=qb ((qa o).put qo t)
     try go_wp2_with (with_reducible first|(first|refine' qw1 (qg ?_) ?_|refine' qw2 (qg ?_) ?_|refine' qw3 (qg ?_) ?_);rotate_left|refine' qw4 (qg ?_)|refine' qw5 (qg ?_)|rfl|apply qn)
     go_meet
     case rel=>exact⟨K5,rfl,rfl,(qa V).drop2⟩
  case rest =>
   obtain⟨Km,rfl,rfl,hX⟩:=hcut
   obtain⟨w3,rfl⟩:∃w3:World,w3=wc:=⟨_,rfl⟩
   have a8:=(MsB.mk hX.one t).row
   have F:=qop hX v m e (qa HM) (qa HT)
   clear hX c2 hr
   go_wp2_with (with_reducible first|(first|refine' zr (qg ?_) ?_|refine' zt (qg ?_) ?_);rotate_left|refine' zu (qg ?_)|rfl|apply tn|refine' zv ?_)
   refine F.mono ?_
   rintro X w4 ⟨rfl,g',l⟩
   have l:=qb l.drop
   clear F
   go_wp2_with (with_reducible first|(first|refine' zr (qg ?_) ?_|refine' zt (qg ?_) ?_);rotate_left|refine' zu (qg ?_)|rfl|apply tn|refine' zv ?_)
   first | go_end0 | go_ret
   exact⟨rfl,g',qa l⟩
set_option maxRecDepth 100000 in
set_option maxHeartbeats 4000000 in
theorem qz1(hT:Tb w0)(H:PrK w0 w p g P [])(x:ActV)(hx:x.Ok)(a5:x.kind=0∨x.kind=1)(k:Nat)(Y:x.k=k)(r:Ch × MsgV × Int)(hr:(P.en k).offer x.n (qic (ofI (qfw x.p))) x.expiry=r)(D:(P.en k).news.length<1000000∧(P.en k).xs.length<1000000)(T:MsgOk r.2.1)(a6:P.wa.length<1000000∧P.wb.length<1000000) :
  Calls Tryz.prog 32 #[.pointer (some ⟨p,0,none⟩),.agg x.cells.toArray] w fun e w'=>e = .returned (.tuple #[])∧∃g',PrK w0 w' p g' (P.act k r) []:=by
 have z:k<2:=Y▸x.k_lt
 have v:=T.len
 have a7:=qf6 x.side
 rw[show (x.side%2).toNat=x.k from rfl,Y] at a7
 go_enter Tryz.func32,Tryz.ntmps32
 go_upto_region 1 with fail
 have K:=H.alloc x.cells.toArray 75
 generalize w.alloc (.cells x.cells.toArray 75)=w1 at K ⊢
 generalize w.heap.size=B at K ⊢
 obtain⟨c0,c1,-,-,-,-⟩:=qei (x:=x) K.one
 have c2:=qbc z (K.new ((Upd.refl (fun _=>False) w1).drew)) (List.mem_cons_self ..)
 have Z:=hx.n
 have X:=hx.id
 have a4:=hx.p
 have V:=hx.expiry
 obtain⟨kd,sd,ex,N,id,E,rest⟩:=x
 simp only at a5 c0 c1 a7 Z X a4 V hr
 have I:=qb (And.intro Z (And.intro X (And.intro a4 V)))
 have b3:(k:Int)<2:=by omega
 have HT:=qb (show (P.set k r.1).wa.length<1000000∧(P.set k r.1).wb.length<1000000 by rw[(qci _ _ _).1,(qci _ _ _).2];exact a6)
 have HM:=qb T
 have K:=qb K
 have C:∀ {y:ActV},ql6 B y∈[ql6 B y]:=List.mem_cons_self ..
 have i:∀ {y:ActV} {q:Kp},ql6 B y∈[q,ql6 B y]:=List.mem_cons_of_mem _ (List.mem_cons_self ..)
 obtain⟨c',m,e⟩:=r
 simp only at v
 clear H a6 T Y hx Z X a4 V
 rcases a5 with rfl | rfl
 all_goals
  go_upto_region 5 with (with_reducible first|(first|refine' zr (qg ?_) ?_|refine' zt (qg ?_) ?_);rotate_left|refine' zu (qg ?_)|rfl|apply tn|refine' zv ?_)
  go_cut [5,6] from 25 to 42 (fun kv ev wx=>∃Km,kv = .pointer (some ⟨Km,0,none⟩)∧ev = .int .i64 e∧PrK w0 wx p g (P.set k c') [(Km,m.cells.toArray,30)])
  case first =>
   refine qb5 (zao p k (g k) B N id ex E) [5,7,9,13] (.fork (.of [18,0,1,2,3,4,5,6,7,8,9,10,11,12,13,14,15,16,17,19,20]) (Plan.pre [0,1,2,3,4,5,6,7,8,9,10] (.fork (.of [18,11,12,13,14,15,16,17,19,20]) (Plan.pre [11] (.fork (.of [18,12,13,14,15,16,17,19,20]) (.of [12,13,14,15,16,17,18,19,20])))))) (by kernel_rfl) (by kernel_rfl) c2 ?_
   simp only[Plan.of,Plan.pre]
   skip
   refine qf ?_ ?_
   ·go_wp2_with (with_reducible first|(first|refine' qw1 (qg ?_) ?_|refine' qw2 (qg ?_) ?_|refine' qw3 (qg ?_) ?_);rotate_left|refine' qw4 (qg ?_)|refine' qw5 (qg ?_)|rfl|apply qn)
    have F:=((qa K).alloc MsgV.zero.cells.toArray 30).new ((Upd.refl (fun _=>False) (w1.alloc (.cells MsgV.zero.cells.toArray 30))).drew)
    have c3:=qbc z F i
    first | refine⟨c3,?_⟩ | skip
    generalize (w1.alloc (.cells MsgV.zero.cells.toArray 30)).drew=a8 at c3 F ⊢
    generalize w1.heap.size=K3 at F ⊢
    have F:=qb F
    try go_wp2_with (with_reducible first|(first|refine' qw1 (qg ?_) ?_|refine' qw2 (qg ?_) ?_|refine' qw3 (qg ?_) ?_);rotate_left|refine' qw4 (qg ?_)|refine' qw5 (qg ?_)|rfl|apply qn)
    refine((fun W=>qfb E (qa I).2.2.1 W) a8).mono ?_
    rintro J w4 ⟨rfl,n4⟩
    have o:=(qa F).new n4
    have c4:=qbc z o i
    have o:=qb o
    go_wp2_with (first | (with_reducible first|(first|refine' qw1 (qg ?_) ?_|refine' qw2 (qg ?_) ?_|refine' qw3 (qg ?_) ?_);rotate_left|refine' qw4 (qg ?_)|refine' qw5 (qg ?_)|rfl|apply qn) | refine⟨c4,?_⟩)
    refine((fun W=>qlc (qfw E) (qee E) W) w4).mono ?_
    rintro J w5 ⟨rfl,n5⟩
    have t:=(qa o).new n5
    have L:=qbc z t i
    have t:=qb t
    go_wp2_with (first | (with_reducible first|(first|refine' qw1 (qg ?_) ?_|refine' qw2 (qg ?_) ?_|refine' qw3 (qg ?_) ?_);rotate_left|refine' qw4 (qg ?_)|refine' qw5 (qg ?_)|rfl|apply qn) | refine⟨L,?_⟩)
    have f:=qq7 hT (qa t) z N (ofI (qfw E)) ex (qns _) (qil _) (qa I).1 (qa I).2.2.2 D
    rw[hr] at f
    refine f.mono ?_
    rintro J w6 ⟨rfl,l⟩
    have M:=qbc z l i
    have l:=qb l
    clear f
    have U:=(MsB.mk (qa l).one qo).stOk v
    have R:=qb ((qa l).put qo v)
    go_wp2_with (first | (with_reducible first|(first|refine' qw1 (qg ?_) ?_|refine' qw2 (qg ?_) ?_|refine' qw3 (qg ?_) ?_);rotate_left|refine' qw4 (qg ?_)|refine' qw5 (qg ?_)|rfl|apply qn) | refine⟨M,?_⟩)
    go_meet
    case rel=>exact⟨K3,rfl,rfl,(qa R).drop2⟩
   ·go_wp2_with (with_reducible first|(first|refine' qw1 (qg ?_) ?_|refine' qw2 (qg ?_) ?_|refine' qw3 (qg ?_) ?_);rotate_left|refine' qw4 (qg ?_)|refine' qw5 (qg ?_)|rfl|apply qn)
    refine((fun W=>qfb E (qa I).2.2.1 W) w1.drew).mono ?_
    rintro J w3 ⟨rfl,n3⟩
    have F:=(qa K).new n3.ofDrew
    have c3:=qbc z F C
    have F:=qb F
    go_wp2_with (first | (with_reducible first|(first|refine' qw1 (qg ?_) ?_|refine' qw2 (qg ?_) ?_|refine' qw3 (qg ?_) ?_);rotate_left|refine' qw4 (qg ?_)|refine' qw5 (qg ?_)|rfl|apply qn) | refine⟨c3,?_⟩)
    refine qf ?_ ?_
    ·go_wp2_with (with_reducible first|(first|refine' qw1 (qg ?_) ?_|refine' qw2 (qg ?_) ?_|refine' qw3 (qg ?_) ?_);rotate_left|refine' qw4 (qg ?_)|refine' qw5 (qg ?_)|rfl|apply qn)
     have o:=((qa F).alloc MsgV.zero.cells.toArray 30)
     have c4:=qbc z o i
     first | refine⟨c4,?_⟩ | skip
     generalize (w3.alloc (.cells MsgV.zero.cells.toArray 30))=a9 at c4 o ⊢
     generalize w3.heap.size=K4 at o ⊢
     have o:=qb o
     try go_wp2_with (with_reducible first|(first|refine' qw1 (qg ?_) ?_|refine' qw2 (qg ?_) ?_|refine' qw3 (qg ?_) ?_);rotate_left|refine' qw4 (qg ?_)|refine' qw5 (qg ?_)|rfl|apply qn)
     refine((fun W=>qlc (qfw E) (qee E) W) a9).mono ?_
     rintro J w5 ⟨rfl,n5⟩
     have t:=(qa o).new n5
     have L:=qbc z t i
     have t:=qb t
     go_wp2_with (first | (with_reducible first|(first|refine' qw1 (qg ?_) ?_|refine' qw2 (qg ?_) ?_|refine' qw3 (qg ?_) ?_);rotate_left|refine' qw4 (qg ?_)|refine' qw5 (qg ?_)|rfl|apply qn) | refine⟨L,?_⟩)
     have f:=qq7 hT (qa t) z N (ofI (qfw E)) ex (qns _) (qil _) (qa I).1 (qa I).2.2.2 D
     rw[hr] at f
     refine f.mono ?_
     rintro J w6 ⟨rfl,l⟩
     have M:=qbc z l i
     have l:=qb l
     clear f
     have U:=(MsB.mk (qa l).one qo).stOk v
     have R:=qb ((qa l).put qo v)
     go_wp2_with (first | (with_reducible first|(first|refine' qw1 (qg ?_) ?_|refine' qw2 (qg ?_) ?_|refine' qw3 (qg ?_) ?_);rotate_left|refine' qw4 (qg ?_)|refine' qw5 (qg ?_)|rfl|apply qn) | refine⟨M,?_⟩)
     go_meet
     case rel=>exact⟨K4,rfl,rfl,(qa R).drop2⟩
    ·go_wp2_with (with_reducible first|(first|refine' qw1 (qg ?_) ?_|refine' qw2 (qg ?_) ?_|refine' qw3 (qg ?_) ?_);rotate_left|refine' qw4 (qg ?_)|refine' qw5 (qg ?_)|rfl|apply qn)
     refine((fun W=>qlc (qfw E) (qee E) W) w3).mono ?_
     rintro J w4 ⟨rfl,n4⟩
     have o:=(qa F).new n4
     have c4:=qbc z o C
     have o:=qb o
     go_wp2_with (first | (with_reducible first|(first|refine' qw1 (qg ?_) ?_|refine' qw2 (qg ?_) ?_|refine' qw3 (qg ?_) ?_);rotate_left|refine' qw4 (qg ?_)|refine' qw5 (qg ?_)|rfl|apply qn) | refine⟨c4,?_⟩)
     refine qf ?_ ?_
     ·go_wp2_with (with_reducible first|(first|refine' qw1 (qg ?_) ?_|refine' qw2 (qg ?_) ?_|refine' qw3 (qg ?_) ?_);rotate_left|refine' qw4 (qg ?_)|refine' qw5 (qg ?_)|rfl|apply qn)
      have t:=((qa o).alloc MsgV.zero.cells.toArray 30)
      have L:=qbc z t i
      first | refine⟨L,?_⟩ | skip
      generalize (w4.alloc (.cells MsgV.zero.cells.toArray 30))=b5 at L t ⊢
      generalize w4.heap.size=K5 at t ⊢
      have t:=qb t
      try go_wp2_with (with_reducible first|(first|refine' qw1 (qg ?_) ?_|refine' qw2 (qg ?_) ?_|refine' qw3 (qg ?_) ?_);rotate_left|refine' qw4 (qg ?_)|refine' qw5 (qg ?_)|rfl|apply qn)
      have f:=qq7 hT (qa t) z N (ofI (qfw E)) ex (qns _) (qil _) (qa I).1 (qa I).2.2.2 D
      rw[hr] at f
      refine f.mono ?_
      rintro J w6 ⟨rfl,l⟩
      have M:=qbc z l i
      have l:=qb l
      clear f
      have U:=(MsB.mk (qa l).one qo).stOk v
      have R:=qb ((qa l).put qo v)
      go_wp2_with (first | (with_reducible first|(first|refine' qw1 (qg ?_) ?_|refine' qw2 (qg ?_) ?_|refine' qw3 (qg ?_) ?_);rotate_left|refine' qw4 (qg ?_)|refine' qw5 (qg ?_)|rfl|apply qn) | refine⟨M,?_⟩)
      go_meet
      case rel=>exact⟨K5,rfl,rfl,(qa R).drop2⟩
     ·go_wp2_with (with_reducible first|(first|refine' qw1 (qg ?_) ?_|refine' qw2 (qg ?_) ?_|refine' qw3 (qg ?_) ?_);rotate_left|refine' qw4 (qg ?_)|refine' qw5 (qg ?_)|rfl|apply qn)
      have f:=qq7 hT (qa o) z N (ofI (qfw E)) ex (qns _) (qil _) (qa I).1 (qa I).2.2.2 D
      rw[hr] at f
      refine f.mono ?_
      rintro J w5 ⟨rfl,t⟩
      have L:=qbc z t C
      have t:=qb t
      clear f
      go_wp2_with (first | (with_reducible first|(first|refine' qw1 (qg ?_) ?_|refine' qw2 (qg ?_) ?_|refine' qw3 (qg ?_) ?_);rotate_left|refine' qw4 (qg ?_)|refine' qw5 (qg ?_)|rfl|apply qn) | refine⟨L,?_⟩)
      have l:=((qa t).alloc MsgV.zero.cells.toArray 30)
      have M:=qbc z l i
      first | refine⟨M,?_⟩ | skip
      generalize (w5.alloc (.cells MsgV.zero.cells.toArray 30))=b6 at M l ⊢
      generalize w5.heap.size=K6 at l ⊢
      have l:=qb l
      have U:=(MsB.mk (qa l).one qo).stOk v
      have R:=qb ((qa l).put qo v)
      try go_wp2_with (with_reducible first|(first|refine' qw1 (qg ?_) ?_|refine' qw2 (qg ?_) ?_|refine' qw3 (qg ?_) ?_);rotate_left|refine' qw4 (qg ?_)|refine' qw5 (qg ?_)|rfl|apply qn)
      go_meet
      case rel=>exact⟨K6,rfl,rfl,(qa R).drop2⟩
  case rest =>
   obtain⟨Km,rfl,rfl,hX⟩:=hcut
   obtain⟨w3,rfl⟩:∃w3:World,w3=wc:=⟨_,rfl⟩
   have b4:=(MsB.mk hX.one v).row
   have O:=qop hX z m e (qa HM) (qa HT)
   clear hX c2 hr
   go_wp2_with (with_reducible first|(first|refine' zr (qg ?_) ?_|refine' zt (qg ?_) ?_);rotate_left|refine' zu (qg ?_)|rfl|apply tn|refine' zv ?_)
   refine O.mono ?_
   rintro J w4 ⟨rfl,g',o⟩
   have o:=qb o.drop
   clear O
   go_wp2_with (with_reducible first|(first|refine' zr (qg ?_) ?_|refine' zt (qg ?_) ?_);rotate_left|refine' zu (qg ?_)|rfl|apply tn|refine' zv ?_)
   first | go_end0 | go_ret
   exact⟨rfl,g',qa o⟩
end
end Go.Proofs.YtjpmomdechibmaaGreatDoor
