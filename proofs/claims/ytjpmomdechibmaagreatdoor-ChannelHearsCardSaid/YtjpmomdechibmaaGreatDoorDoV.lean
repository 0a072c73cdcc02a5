/-
  Law 13: does, walked: Offer, Fulfill, Fail (printed by tools/mk_dow.py).
-/
import Derived.Test.YtjpmomdechibmaaGreatDoorMfa
set_option linter.unusedVariables false
set_option linter.unusedSimpArgs false
namespace Go.Proofs.YtjpmomdechibmaaGreatDoor
open Go.RowKit
attribute [local go_sem ↓ high] z7 qal qan qa0 qab qac qag qaa
attribute [local go_sem] qcp qdl qdr zn qc2 qc3 qc6 qbm
abbrev q8x(p k gk B:Nat)(N id ex f:Int)(w:World):Prop:=w.cell? ⟨p,k,none⟩=some (.pointer (some ⟨gk,0,none⟩))∧w.cell? ⟨B,2,none⟩=some (.int .i64 ex)∧w.cell? ⟨B,3,none⟩=some (.int .u64 N)∧w.cell? ⟨B,4,none⟩=some (.int .u64 id)∧w.cell? ⟨B,5,none⟩=some (.int .u8 f)
theorem qa4{w0 w:World}{p:Nat}{g:Nat→Nat}{P:Pr}{Ks:List Kp}{k B:Nat}{x:ActV}(m:k<2)(h:PrK w0 w p g P Ks)(o:qli B x∈Ks):q8x p k (g k) B x.n x.id x.expiry x.p w:=by
 obtain⟨-,-,f,i,j,l⟩:=qd5 (h.kept o)
 exact⟨h.cell m,f,i,j,l⟩
theorem PrK.drop2{w0 w:World}{p:Nat}{g:Nat→Nat}{P:Pr}{Ks:List Kp}{q r:Kp}(h:PrK w0 w p g P (q::r::Ks)):PrK w0 w p g P (q::Ks):=by
 obtain⟨S,i,j,z,C,v,l,m,o,t⟩:=h
 have f:(q::Ks).Sublist (q::r::Ks):=List.Sublist.cons_cons q (List.sublist_cons_self r Ks)
 exact⟨S,i,j,z,C,v,l,m,fun y x=>o y (f.subset x),t.sublist (f.map _)⟩
section
variable {w0 w:World}{p:Nat}{g:Nat→Nat}{P:Pr}
set_option maxRecDepth 100000 in
set_option maxHeartbeats 4000000 in
theorem q2h(hT:Tb w0)(H:PrK w0 w p g P [])(x:ActV)(T:x.Ok)(M:x.kind=3)(k:Nat)(J:x.k=k)(r:Ch × MsgV × Int)(X:(P.en k).fail x.id x.expiry=r)(v:(P.en k).news.length<1000000∧(P.en k).xs.length<1000000)(E:MsgOk r.2.1)(O:P.wa.length<1000000∧P.wb.length<1000000) :
  Calls Tryz.prog 32 #[.pointer (some ⟨p,0,none⟩),.agg x.cells.toArray] w fun e w'=>e = .returned (.tuple #[])∧∃g',PrK w0 w' p g' (P.act k r) []:=by
 have z:k<2:=J▸x.k_lt
 have l:=E.len
 have R:=qfs x.side
 rw[show (x.side%2).toNat=x.k from rfl,J] at R
 go_enter Tryz.func32,Tryz.ntmps32
 go_upto_region 1 with fail
 have t:=H.alloc x.cells.toArray 75
 generalize w.alloc (.cells x.cells.toArray 75)=w1 at t ⊢
 generalize w.heap.size=B at t ⊢
 obtain⟨c0,c1,-,-,-,-⟩:=qd5 (x:=x) t.one
 have c2:=qa4 z (t.new ((Upd.refl (fun _=>False) w1).drew)) (List.mem_cons_self ..)
 have K:=T.n
 have I:=T.id
 have L:=T.p
 have F:=T.expiry
 obtain⟨kd,sd,ex,N,id,pb,rest⟩:=x
 simp only at M c0 c1 R K I L F X
 have HX:=qb (And.intro K (And.intro I (And.intro L F)))
 have a5:(k:Int)<2:=by omega
 have HT:=qb (show (P.set k r.1).wa.length<1000000∧(P.set k r.1).wb.length<1000000 by rw[(qeg _ _ _).1,(qeg _ _ _).2];exact O)
 have HM:=qb E
 have t:=qb t
 have D:∀ {y:ActV},qli B y∈[qli B y]:=List.mem_cons_self ..
 have j:∀ {y:ActV} {q:Kp},qli B y∈[q,qli B y]:=List.mem_cons_of_mem _ (List.mem_cons_self ..)
 obtain⟨c',m,e⟩:=r
 simp only at l
 clear H O E J T K I L F
 subst M
 all_goals
  go_upto_region 11 with (with_reducible first|(first|refine' tw1 (qh ?_) ?_|refine' tw2 (qh ?_) ?_);rotate_left|refine' tw3 (qh ?_)|rfl|apply tn|refine' tw4 ?_)
  go_cut [9,10] from 72 to 85 (fun kv ev wx=>∃Km,kv = .pointer (some ⟨Km,0,none⟩)∧ev = .int .i64 e∧PrK w0 wx p g (P.set k c') [(Km,m.cells.toArray,30)])
  case first =>
   refine qb2 (q8x p k (g k) B N id ex pb) [5,7,9] (.fork (.of [14,0,1,2,3,4,5,6,7,8,9,10,11,12,13,15,16]) (.of [0,1,2,3,4,5,6,7,8,9,10,11,12,13,14,15,16])) (by kernel_rfl) (by kernel_rfl) c2 ?_
   simp only[Plan.of,Plan.pre]
   skip
   refine qf ?_ ?_
   ·go_wp2_with (with_reducible first|(first|refine' qw1 (qh ?_) ?_|refine' qw2 (qh ?_) ?_|refine' qw3 (qh ?_) ?_);rotate_left|refine' qw4 (qh ?_)|refine' qw5 (qh ?_)|rfl|apply qn)
    have o:=((qa t).alloc MsgV.zero.cells.toArray 30).new ((Upd.refl (fun _=>False) (w1.alloc (.cells MsgV.zero.cells.toArray 30))).drew)
    have V:=qa4 z o j
    first | refine⟨V,?_⟩ | skip
    generalize (w1.alloc (.cells MsgV.zero.cells.toArray 30)).drew=a7 at V o ⊢
    generalize w1.heap.size=K3 at o ⊢
    have o:=qb o
    try go_wp2_with (with_reducible first|(first|refine' qw1 (qh ?_) ?_|refine' qw2 (qh ?_) ?_|refine' qw3 (qh ?_) ?_);rotate_left|refine' qw4 (qh ?_)|refine' qw5 (qh ?_)|rfl|apply qn)
    have f:=za7 hT (qa o) z id ex v.1
    rw[X] at f
    refine f.mono ?_
    rintro ee w4 ⟨rfl,i⟩
    have W:=qa4 z i j
    have i:=qb i
    clear f
    have a4:=(MsB.mk (qa i).one qo).stOk l
    have Y:=qb ((qa i).put qo l)
    go_wp2_with (first | (with_reducible first|(first|refine' qw1 (qh ?_) ?_|refine' qw2 (qh ?_) ?_|refine' qw3 (qh ?_) ?_);rotate_left|refine' qw4 (qh ?_)|refine' qw5 (qh ?_)|rfl|apply qn) | refine⟨W,?_⟩)
    go_meet
    case rel=>exact⟨K3,rfl,rfl,(qa Y).drop2⟩
   ·go_wp2_with (with_reducible first|(first|refine' qw1 (qh ?_) ?_|refine' qw2 (qh ?_) ?_|refine' qw3 (qh ?_) ?_);rotate_left|refine' qw4 (qh ?_)|refine' qw5 (qh ?_)|rfl|apply qn)
    have f:=za7 hT ((qa t).new ((Upd.refl (fun _=>False) w1).drew)) z id ex v.1
    rw[X] at f
    refine f.mono ?_
    rintro ee U ⟨rfl,o⟩
    have V:=qa4 z o D
    have o:=qb o
    clear f
    go_wp2_with (first | (with_reducible first|(first|refine' qw1 (qh ?_) ?_|refine' qw2 (qh ?_) ?_|refine' qw3 (qh ?_) ?_);rotate_left|refine' qw4 (qh ?_)|refine' qw5 (qh ?_)|rfl|apply qn) | refine⟨V,?_⟩)
    have i:=((qa o).alloc MsgV.zero.cells.toArray 30)
    have W:=qa4 z i j
    go_wp2_with (with_reducible first|(first|refine' qw1 (qh ?_) ?_|refine' qw2 (qh ?_) ?_|refine' qw3 (qh ?_) ?_);rotate_left|refine' qw4 (qh ?_)|refine' qw5 (qh ?_)|rfl|apply qn)
    first | refine⟨W,?_⟩ | skip
    generalize (U.alloc (.cells MsgV.zero.cells.toArray 30))=a8 at W i ⊢
    generalize U.heap.size=K4 at i ⊢
    have i:=qb i
    have a4:=(MsB.mk (qa i).one qo).stOk l
    have Y:=qb ((qa i).put qo l)
    try go_wp2_with (with_reducible first|(first|refine' qw1 (qh ?_) ?_|refine' qw2 (qh ?_) ?_|refine' qw3 (qh ?_) ?_);rotate_left|refine' qw4 (qh ?_)|refine' qw5 (qh ?_)|rfl|apply qn)
    go_meet
    case rel=>exact⟨K4,rfl,rfl,(qa Y).drop2⟩
  case rest =>
   obtain⟨Km,rfl,rfl,Z⟩:=hcut
   obtain⟨U,rfl⟩:∃U:World,U=wc:=⟨_,rfl⟩
   have a6:=(MsB.mk Z.one l).row
   have C:=qxi Z z m e (qa HM) (qa HT)
   clear Z c2 X
   go_wp2_with (with_reducible first|(first|refine' tw1 (qh ?_) ?_|refine' tw2 (qh ?_) ?_);rotate_left|refine' tw3 (qh ?_)|rfl|apply tn|refine' tw4 ?_)
   refine C.mono ?_
   rintro ee w4 ⟨rfl,g',i⟩
   have i:=qb i.drop
   clear C
   go_wp2_with (with_reducible first|(first|refine' tw1 (qh ?_) ?_|refine' tw2 (qh ?_) ?_);rotate_left|refine' tw3 (qh ?_)|rfl|apply tn|refine' tw4 ?_)
   first | go_end0 | go_ret
   exact⟨rfl,g',qa i⟩
set_option maxRecDepth 100000 in
set_option maxHeartbeats 4000000 in
theorem qto(hT:Tb w0)(H:PrK w0 w p g P [])(x:ActV)(hx:x.Ok)(X:x.kind=2)(k:Nat)(K:x.k=k)(r:Ch × MsgV × Int)(Z:(P.en k).fulfill x.id (qfd x.p)=r)(z:(P.en k).news.length<1000000∧(P.en k).xs.length<1000000)(F:MsgOk r.2.1)(Y:P.wa.length<1000000∧P.wb.length<1000000) :
  Calls Tryz.prog 32 #[.pointer (some ⟨p,0,none⟩),.agg x.cells.toArray] w fun e w'=>e = .returned (.tuple #[])∧∃g',PrK w0 w' p g' (P.act k r) []:=by
 have t:k<2:=K▸x.k_lt
 have o:=F.len
 have a4:=qfs x.side
 rw[show (x.side%2).toNat=x.k from rfl,K] at a4
 go_enter Tryz.func32,Tryz.ntmps32
 go_upto_region 1 with fail
 have D:=H.alloc x.cells.toArray 75
 generalize w.alloc (.cells x.cells.toArray 75)=w1 at D ⊢
 generalize w.heap.size=B at D ⊢
 obtain⟨c0,c1,-,-,-,-⟩:=qd5 (x:=x) D.one
 have c2:=qa4 t (D.new ((Upd.refl (fun _=>False) w1).drew)) (List.mem_cons_self ..)
 have L:=hx.n
 have J:=hx.id
 have M:=hx.p
 have I:=hx.expiry
 obtain⟨kd,sd,ex,N,id,T,rest⟩:=x
 simp only at X c0 c1 a4 L J M I Z
 have HX:=qb (And.intro L (And.intro J (And.intro M I)))
 have a7:(k:Int)<2:=by omega
 have HT:=qb (show (P.set k r.1).wa.length<1000000∧(P.set k r.1).wb.length<1000000 by rw[(qeg _ _ _).1,(qeg _ _ _).2];exact Y)
 have HM:=qb F
 have D:=qb D
 have C:∀ {y:ActV},qli B y∈[qli B y]:=List.mem_cons_self ..
 have i:∀ {y:ActV} {q:Kp},qli B y∈[q,qli B y]:=List.mem_cons_of_mem _ (List.mem_cons_self ..)
 obtain⟨c',m,e⟩:=r
 simp only at o
 clear H Y F K hx L J M I
 subst X
 all_goals
  go_upto_region 8 with (with_reducible first|(first|refine' tw1 (qh ?_) ?_|refine' tw2 (qh ?_) ?_);rotate_left|refine' tw3 (qh ?_)|rfl|apply tn|refine' tw4 ?_)
  go_cut [7,8] from 50 to 64 (fun kv ev wx=>∃Km,kv = .pointer (some ⟨Km,0,none⟩)∧ev = .int .i64 e∧PrK w0 wx p g (P.set k c') [(Km,m.cells.toArray,30)])
  case first =>
   refine qb2 (q8x p k (g k) B N id ex T) [5,7,9] (.fork (.of [15,0,1,2,3,4,5,6,7,8,9,10,11,12,13,14,16,17]) (Plan.pre [0,1,2,3,4,5,6,7,8,9,10] (.fork (.of [15,11,12,13,14,16,17]) (.of [11,12,13,14,15,16,17])))) (by kernel_rfl) (by kernel_rfl) c2 ?_
   simp only[Plan.of,Plan.pre]
   skip
   refine qf ?_ ?_
   ·go_wp2_with (with_reducible first|(first|refine' qw1 (qh ?_) ?_|refine' qw2 (qh ?_) ?_|refine' qw3 (qh ?_) ?_);rotate_left|refine' qw4 (qh ?_)|refine' qw5 (qh ?_)|rfl|apply qn)
    have v:=((qa D).alloc MsgV.zero.cells.toArray 30).new ((Upd.refl (fun _=>False) (w1.alloc (.cells MsgV.zero.cells.toArray 30))).drew)
    have c3:=qa4 t v i
    first | refine⟨c3,?_⟩ | skip
    generalize (w1.alloc (.cells MsgV.zero.cells.toArray 30)).drew=a6 at c3 v ⊢
    generalize w1.heap.size=K3 at v ⊢
    have v:=qb v
    try go_wp2_with (with_reducible first|(first|refine' qw1 (qh ?_) ?_|refine' qw2 (qh ?_) ?_|refine' qw3 (qh ?_) ?_);rotate_left|refine' qw4 (qh ?_)|refine' qw5 (qh ?_)|rfl|apply qn)
    refine((fun W=>qew T (qa HX).2.2.1 W) a6).mono ?_
    rintro V w4 ⟨rfl,n4⟩
    have j:=(qa v).new n4
    have O:=qa4 t j i
    have j:=qb j
    go_wp2_with (first | (with_reducible first|(first|refine' qw1 (qh ?_) ?_|refine' qw2 (qh ?_) ?_|refine' qw3 (qh ?_) ?_);rotate_left|refine' qw4 (qh ?_)|refine' qw5 (qh ?_)|rfl|apply qn) | refine⟨O,?_⟩)
    have f:=qpb hT (qa j) t id (qfd T) (qd1 _) z.1
    rw[Z] at f
    refine f.mono ?_
    rintro V w5 ⟨rfl,l⟩
    have R:=qa4 t l i
    have l:=qb l
    clear f
    have a5:=(MsB.mk (qa l).one qo).stOk o
    have U:=qb ((qa l).put qo o)
    go_wp2_with (first | (with_reducible first|(first|refine' qw1 (qh ?_) ?_|refine' qw2 (qh ?_) ?_|refine' qw3 (qh ?_) ?_);rotate_left|refine' qw4 (qh ?_)|refine' qw5 (qh ?_)|rfl|apply qn) | refine⟨R,?_⟩)
    go_meet
    case rel=>exact⟨K3,rfl,rfl,(qa U).drop2⟩
   ·go_wp2_with (with_reducible first|(first|refine' qw1 (qh ?_) ?_|refine' qw2 (qh ?_) ?_|refine' qw3 (qh ?_) ?_);rotate_left|refine' qw4 (qh ?_)|refine' qw5 (qh ?_)|rfl|apply qn)
    refine((fun W=>qew T (qa HX).2.2.1 W) w1.drew).mono ?_
    rintro V w3 ⟨rfl,n3⟩
    have v:=(qa D).new n3.ofDrew
    have c3:=qa4 t v C
    have v:=qb v
    go_wp2_with (first | (with_reducible first|(first|refine' qw1 (qh ?_) ?_|refine' qw2 (qh ?_) ?_|refine' qw3 (qh ?_) ?_);rotate_left|refine' qw4 (qh ?_)|refine' qw5 (qh ?_)|rfl|apply qn) | refine⟨c3,?_⟩)
    refine qf ?_ ?_
    ·go_wp2_with (with_reducible first|(first|refine' qw1 (qh ?_) ?_|refine' qw2 (qh ?_) ?_|refine' qw3 (qh ?_) ?_);rotate_left|refine' qw4 (qh ?_)|refine' qw5 (qh ?_)|rfl|apply qn)
     have j:=((qa v).alloc MsgV.zero.cells.toArray 30)
     have O:=qa4 t j i
     first | refine⟨O,?_⟩ | skip
     generalize (w3.alloc (.cells MsgV.zero.cells.toArray 30))=a9 at O j ⊢
     generalize w3.heap.size=K4 at j ⊢
     have j:=qb j
     try go_wp2_with (with_reducible first|(first|refine' qw1 (qh ?_) ?_|refine' qw2 (qh ?_) ?_|refine' qw3 (qh ?_) ?_);rotate_left|refine' qw4 (qh ?_)|refine' qw5 (qh ?_)|rfl|apply qn)
     have f:=qpb hT (qa j) t id (qfd T) (qd1 _) z.1
     rw[Z] at f
     refine f.mono ?_
     rintro V w5 ⟨rfl,l⟩
     have R:=qa4 t l i
     have l:=qb l
     clear f
     have a5:=(MsB.mk (qa l).one qo).stOk o
     have U:=qb ((qa l).put qo o)
     go_wp2_with (first | (with_reducible first|(first|refine' qw1 (qh ?_) ?_|refine' qw2 (qh ?_) ?_|refine' qw3 (qh ?_) ?_);rotate_left|refine' qw4 (qh ?_)|refine' qw5 (qh ?_)|rfl|apply qn) | refine⟨R,?_⟩)
     go_meet
     case rel=>exact⟨K4,rfl,rfl,(qa U).drop2⟩
    ·go_wp2_with (with_reducible first|(first|refine' qw1 (qh ?_) ?_|refine' qw2 (qh ?_) ?_|refine' qw3 (qh ?_) ?_);rotate_left|refine' qw4 (qh ?_)|refine' qw5 (qh ?_)|rfl|apply qn)
     have f:=qpb hT (qa v) t id (qfd T) (qd1 _) z.1
     rw[Z] at f
     refine f.mono ?_
     rintro V w4 ⟨rfl,j⟩
     have O:=qa4 t j C
     have j:=qb j
     clear f
     go_wp2_with (first | (with_reducible first|(first|refine' qw1 (qh ?_) ?_|refine' qw2 (qh ?_) ?_|refine' qw3 (qh ?_) ?_);rotate_left|refine' qw4 (qh ?_)|refine' qw5 (qh ?_)|rfl|apply qn) | refine⟨O,?_⟩)
     have l:=((qa j).alloc MsgV.zero.cells.toArray 30)
     have R:=qa4 t l i
     first | refine⟨R,?_⟩ | skip
     generalize (w4.alloc (.cells MsgV.zero.cells.toArray 30))=b3 at R l ⊢
     generalize w4.heap.size=K5 at l ⊢
     have l:=qb l
     have a5:=(MsB.mk (qa l).one qo).stOk o
     have U:=qb ((qa l).put qo o)
     try go_wp2_with (with_reducible first|(first|refine' qw1 (qh ?_) ?_|refine' qw2 (qh ?_) ?_|refine' qw3 (qh ?_) ?_);rotate_left|refine' qw4 (qh ?_)|refine' qw5 (qh ?_)|rfl|apply qn)
     go_meet
     case rel=>exact⟨K5,rfl,rfl,(qa U).drop2⟩
  case rest =>
   obtain⟨Km,rfl,rfl,hX⟩:=hcut
   obtain⟨w3,rfl⟩:∃w3:World,w3=wc:=⟨_,rfl⟩
   have a8:=(MsB.mk hX.one o).row
   have E:=qxi hX t m e (qa HM) (qa HT)
   clear hX c2 Z
   go_wp2_with (with_reducible first|(first|refine' tw1 (qh ?_) ?_|refine' tw2 (qh ?_) ?_);rotate_left|refine' tw3 (qh ?_)|rfl|apply tn|refine' tw4 ?_)
   refine E.mono ?_
   rintro V w4 ⟨rfl,g',j⟩
   have j:=qb j.drop
   clear E
   go_wp2_with (with_reducible first|(first|refine' tw1 (qh ?_) ?_|refine' tw2 (qh ?_) ?_);rotate_left|refine' tw3 (qh ?_)|rfl|apply tn|refine' tw4 ?_)
   first | go_end0 | go_ret
   exact⟨rfl,g',qa j⟩
set_option maxRecDepth 100000 in
set_option maxHeartbeats 4000000 in
theorem qys(hT:Tb w0)(H:PrK w0 w p g P [])(x:ActV)(hx:x.Ok)(a4:x.kind=0∨x.kind=1)(k:Nat)(X:x.k=k)(r:Ch × MsgV × Int)(hr:(P.en k).offer x.n (qhx (ofI (qfd x.p))) x.expiry=r)(C:(P.en k).news.length<1000000∧(P.en k).xs.length<1000000)(R:MsgOk r.2.1)(a5:P.wa.length<1000000∧P.wb.length<1000000) :
  Calls Tryz.prog 32 #[.pointer (some ⟨p,0,none⟩),.agg x.cells.toArray] w fun e w'=>e = .returned (.tuple #[])∧∃g',PrK w0 w' p g' (P.act k r) []:=by
 have v:k<2:=X▸x.k_lt
 have t:=R.len
 have a6:=qfs x.side
 rw[show (x.side%2).toNat=x.k from rfl,X] at a6
 go_enter Tryz.func32,Tryz.ntmps32
 go_upto_region 1 with fail
 have J:=H.alloc x.cells.toArray 75
 generalize w.alloc (.cells x.cells.toArray 75)=w1 at J ⊢
 generalize w.heap.size=B at J ⊢
 obtain⟨c0,c1,-,-,-,-⟩:=qd5 (x:=x) J.one
 have c2:=qa4 v (J.new ((Upd.refl (fun _=>False) w1).drew)) (List.mem_cons_self ..)
 have Y:=hx.n
 have V:=hx.id
 have Z:=hx.p
 have U:=hx.expiry
 obtain⟨kd,sd,ex,N,id,D,rest⟩:=x
 simp only at a4 c0 c1 a6 Y V Z U hr
 have F:=qb (And.intro Y (And.intro V (And.intro Z U)))
 have a9:(k:Int)<2:=by omega
 have HT:=qb (show (P.set k r.1).wa.length<1000000∧(P.set k r.1).wb.length<1000000 by rw[(qeg _ _ _).1,(qeg _ _ _).2];exact a5)
 have HM:=qb R
 have J:=qb J
 have z:∀ {y:ActV},qli B y∈[qli B y]:=List.mem_cons_self ..
 have i:∀ {y:ActV} {q:Kp},qli B y∈[q,qli B y]:=List.mem_cons_of_mem _ (List.mem_cons_self ..)
 obtain⟨c',m,e⟩:=r
 simp only at t
 clear H a5 R X hx Y V Z U
 rcases a4 with rfl | rfl
 all_goals
  go_upto_region 5 with (with_reducible first|(first|refine' tw1 (qh ?_) ?_|refine' tw2 (qh ?_) ?_);rotate_left|refine' tw3 (qh ?_)|rfl|apply tn|refine' tw4 ?_)
  go_cut [5,6] from 25 to 42 (fun kv ev wx=>∃Km,kv = .pointer (some ⟨Km,0,none⟩)∧ev = .int .i64 e∧PrK w0 wx p g (P.set k c') [(Km,m.cells.toArray,30)])
  case first =>
   refine qb2 (q8x p k (g k) B N id ex D) [5,7,9,13] (.fork (.of [18,0,1,2,3,4,5,6,7,8,9,10,11,12,13,14,15,16,17,19,20]) (Plan.pre [0,1,2,3,4,5,6,7,8,9,10] (.fork (.of [18,11,12,13,14,15,16,17,19,20]) (Plan.pre [11] (.fork (.of [18,12,13,14,15,16,17,19,20]) (.of [12,13,14,15,16,17,18,19,20])))))) (by kernel_rfl) (by kernel_rfl) c2 ?_
   simp only[Plan.of,Plan.pre]
   skip
   refine qf ?_ ?_
   ·go_wp2_with (with_reducible first|(first|refine' qw1 (qh ?_) ?_|refine' qw2 (qh ?_) ?_|refine' qw3 (qh ?_) ?_);rotate_left|refine' qw4 (qh ?_)|refine' qw5 (qh ?_)|rfl|apply qn)
    have E:=((qa J).alloc MsgV.zero.cells.toArray 30).new ((Upd.refl (fun _=>False) (w1.alloc (.cells MsgV.zero.cells.toArray 30))).drew)
    have c3:=qa4 v E i
    first | refine⟨c3,?_⟩ | skip
    generalize (w1.alloc (.cells MsgV.zero.cells.toArray 30)).drew=a7 at c3 E ⊢
    generalize w1.heap.size=K3 at E ⊢
    have E:=qb E
    try go_wp2_with (with_reducible first|(first|refine' qw1 (qh ?_) ?_|refine' qw2 (qh ?_) ?_|refine' qw3 (qh ?_) ?_);rotate_left|refine' qw4 (qh ?_)|refine' qw5 (qh ?_)|rfl|apply qn)
    refine((fun W=>qew D (qa F).2.2.1 W) a7).mono ?_
    rintro I w4 ⟨rfl,n4⟩
    have l:=(qa E).new n4
    have c4:=qa4 v l i
    have l:=qb l
    go_wp2_with (first | (with_reducible first|(first|refine' qw1 (qh ?_) ?_|refine' qw2 (qh ?_) ?_|refine' qw3 (qh ?_) ?_);rotate_left|refine' qw4 (qh ?_)|refine' qw5 (qh ?_)|rfl|apply qn) | refine⟨c4,?_⟩)
    refine((fun W=>qks (qfd D) (qd1 D) W) w4).mono ?_
    rintro I w5 ⟨rfl,n5⟩
    have o:=(qa l).new n5
    have K:=qa4 v o i
    have o:=qb o
    go_wp2_with (first | (with_reducible first|(first|refine' qw1 (qh ?_) ?_|refine' qw2 (qh ?_) ?_|refine' qw3 (qh ?_) ?_);rotate_left|refine' qw4 (qh ?_)|refine' qw5 (qh ?_)|rfl|apply qn) | refine⟨K,?_⟩)
    have f:=qt7 hT (qa o) v N (ofI (qfd D)) ex (qm3 _) (qh6 _) (qa F).1 (qa F).2.2.2 C
    rw[hr] at f
    refine f.mono ?_
    rintro I w6 ⟨rfl,j⟩
    have L:=qa4 v j i
    have j:=qb j
    clear f
    have T:=(MsB.mk (qa j).one qo).stOk t
    have O:=qb ((qa j).put qo t)
    go_wp2_with (first | (with_reducible first|(first|refine' qw1 (qh ?_) ?_|refine' qw2 (qh ?_) ?_|refine' qw3 (qh ?_) ?_);rotate_left|refine' qw4 (qh ?_)|refine' qw5 (qh ?_)|rfl|apply qn) | refine⟨L,?_⟩)
    go_meet
    case rel=>exact⟨K3,rfl,rfl,(qa O).drop2⟩
   ·go_wp2_with (with_reducible first|(first|refine' qw1 (qh ?_) ?_|refine' qw2 (qh ?_) ?_|refine' qw3 (qh ?_) ?_);rotate_left|refine' qw4 (qh ?_)|refine' qw5 (qh ?_)|rfl|apply qn)
    refine((fun W=>qew D (qa F).2.2.1 W) w1.drew).mono ?_
    rintro I w3 ⟨rfl,n3⟩
    have E:=(qa J).new n3.ofDrew
    have c3:=qa4 v E z
    have E:=qb E
    go_wp2_with (first | (with_reducible first|(first|refine' qw1 (qh ?_) ?_|refine' qw2 (qh ?_) ?_|refine' qw3 (qh ?_) ?_);rotate_left|refine' qw4 (qh ?_)|refine' qw5 (qh ?_)|rfl|apply qn) | refine⟨c3,?_⟩)
    refine qf ?_ ?_
    ·go_wp2_with (with_reducible first|(first|refine' qw1 (qh ?_) ?_|refine' qw2 (qh ?_) ?_|refine' qw3 (qh ?_) ?_);rotate_left|refine' qw4 (qh ?_)|refine' qw5 (qh ?_)|rfl|apply qn)
     have l:=((qa E).alloc MsgV.zero.cells.toArray 30)
     have c4:=qa4 v l i
     first | refine⟨c4,?_⟩ | skip
     generalize (w3.alloc (.cells MsgV.zero.cells.toArray 30))=a8 at c4 l ⊢
     generalize w3.heap.size=K4 at l ⊢
     have l:=qb l
     try go_wp2_with (with_reducible first|(first|refine' qw1 (qh ?_) ?_|refine' qw2 (qh ?_) ?_|refine' qw3 (qh ?_) ?_);rotate_left|refine' qw4 (qh ?_)|refine' qw5 (qh ?_)|rfl|apply qn)
     refine((fun W=>qks (qfd D) (qd1 D) W) a8).mono ?_
     rintro I w5 ⟨rfl,n5⟩
     have o:=(qa l).new n5
     have K:=qa4 v o i
     have o:=qb o
     go_wp2_with (first | (with_reducible first|(first|refine' qw1 (qh ?_) ?_|refine' qw2 (qh ?_) ?_|refine' qw3 (qh ?_) ?_);rotate_left|refine' qw4 (qh ?_)|refine' qw5 (qh ?_)|rfl|apply qn) | refine⟨K,?_⟩)
     have f:=qt7 hT (qa o) v N (ofI (qfd D)) ex (qm3 _) (qh6 _) (qa F).1 (qa F).2.2.2 C
     rw[hr] at f
     refine f.mono ?_
     rintro I w6 ⟨rfl,j⟩
     have L:=qa4 v j i
     have j:=qb j
     clear f
     have T:=(MsB.mk (qa j).one qo).stOk t
     have O:=qb ((qa j).put qo t)
     go_wp2_with (first | (with_reducible first|(first|refine' qw1 (qh ?_) ?_|refine' qw2 (qh ?_) ?_|refine' qw3 (qh ?_) ?_);rotate_left|refine' qw4 (qh ?_)|refine' qw5 (qh ?_)|rfl|apply qn) | refine⟨L,?_⟩)
     go_meet
     case rel=>exact⟨K4,rfl,rfl,(qa O).drop2⟩
    ·go_wp2_with (with_reducible first|(first|refine' qw1 (qh ?_) ?_|refine' qw2 (qh ?_) ?_|refine' qw3 (qh ?_) ?_);rotate_left|refine' qw4 (qh ?_)|refine' qw5 (qh ?_)|rfl|apply qn)
     refine((fun W=>qks (qfd D) (qd1 D) W) w3).mono ?_
     rintro I w4 ⟨rfl,n4⟩
     have l:=(qa E).new n4
     have c4:=qa4 v l z
     have l:=qb l
     go_wp2_with (first | (with_reducible first|(first|refine' qw1 (qh ?_) ?_|refine' qw2 (qh ?_) ?_|refine' qw3 (qh ?_) ?_);rotate_left|refine' qw4 (qh ?_)|refine' qw5 (qh ?_)|rfl|apply qn) | refine⟨c4,?_⟩)
     refine qf ?_ ?_
     ·go_wp2_with (with_reducible first|(first|refine' qw1 (qh ?_) ?_|refine' qw2 (qh ?_) ?_|refine' qw3 (qh ?_) ?_);rotate_left|refine' qw4 (qh ?_)|refine' qw5 (qh ?_)|rfl|apply qn)
      have o:=((qa l).alloc MsgV.zero.cells.toArray 30)
      have K:=qa4 v o i
      first | refine⟨K,?_⟩ | skip
      generalize (w4.alloc (.cells MsgV.zero.cells.toArray 30))=b4 at K o ⊢
      generalize w4.heap.size=K5 at o ⊢
      have o:=qb o
      try go_wp2_with (with_reducible first|(first|refine' qw1 (qh ?_) ?_|refine' qw2 (qh ?_) ?_|refine' qw3 (qh ?_) ?_);rotate_left|refine' qw4 (qh ?_)|refine' qw5 (qh ?_)|rfl|apply qn)
      have f:=qt7 hT (qa o) v N (ofI (qfd D)) ex (qm3 _) (qh6 _) (qa F).1 (qa F).2.2.2 C
      rw[hr] at f
      refine f.mono ?_
      rintro I w6 ⟨rfl,j⟩
      have L:=qa4 v j i
      have j:=qb j
      clear f
      have T:=(MsB.mk (qa j).one qo).stOk t
      have O:=qb ((qa j).put qo t)
      go_wp2_with (first | (with_reducible first|(first|refine' qw1 (qh ?_) ?_|refine' qw2 (qh ?_) ?_|refine' qw3 (qh ?_) ?_);rotate_left|refine' qw4 (qh ?_)|refine' qw5 (qh ?_)|rfl|apply qn) | refine⟨L,?_⟩)
      go_meet
      case rel=>exact⟨K5,rfl,rfl,(qa O).drop2⟩
     ·go_wp2_with (with_reducible first|(first|refine' qw1 (qh ?_) ?_|refine' qw2 (qh ?_) ?_|refine' qw3 (qh ?_) ?_);rotate_left|refine' qw4 (qh ?_)|refine' qw5 (qh ?_)|rfl|apply qn)
      have f:=qt7 hT (qa l) v N (ofI (qfd D)) ex (qm3 _) (qh6 _) (qa F).1 (qa F).2.2.2 C
      rw[hr] at f
      refine f.mono ?_
      rintro I w5 ⟨rfl,o⟩
      have K:=qa4 v o z
      have o:=qb o
      clear f
      go_wp2_with (first | (with_reducible first|(first|refine' qw1 (qh ?_) ?_|refine' qw2 (qh ?_) ?_|refine' qw3 (qh ?_) ?_);rotate_left|refine' qw4 (qh ?_)|refine' qw5 (qh ?_)|rfl|apply qn) | refine⟨K,?_⟩)
      have j:=((qa o).alloc MsgV.zero.cells.toArray 30)
      have L:=qa4 v j i
      first | refine⟨L,?_⟩ | skip
      generalize (w5.alloc (.cells MsgV.zero.cells.toArray 30))=b5 at L j ⊢
      generalize w5.heap.size=K6 at j ⊢
      have j:=qb j
      have T:=(MsB.mk (qa j).one qo).stOk t
      have O:=qb ((qa j).put qo t)
      try go_wp2_with (with_reducible first|(first|refine' qw1 (qh ?_) ?_|refine' qw2 (qh ?_) ?_|refine' qw3 (qh ?_) ?_);rotate_left|refine' qw4 (qh ?_)|refine' qw5 (qh ?_)|rfl|apply qn)
      go_meet
      case rel=>exact⟨K6,rfl,rfl,(qa O).drop2⟩
  case rest =>
   obtain⟨Km,rfl,rfl,hX⟩:=hcut
   obtain⟨w3,rfl⟩:∃w3:World,w3=wc:=⟨_,rfl⟩
   have b3:=(MsB.mk hX.one t).row
   have M:=qxi hX v m e (qa HM) (qa HT)
   clear hX c2 hr
   go_wp2_with (with_reducible first|(first|refine' tw1 (qh ?_) ?_|refine' tw2 (qh ?_) ?_);rotate_left|refine' tw3 (qh ?_)|rfl|apply tn|refine' tw4 ?_)
   refine M.mono ?_
   rintro I w4 ⟨rfl,g',l⟩
   have l:=qb l.drop
   clear M
   go_wp2_with (with_reducible first|(first|refine' tw1 (qh ?_) ?_|refine' tw2 (qh ?_) ?_);rotate_left|refine' tw3 (qh ?_)|rfl|apply tn|refine' tw4 ?_)
   first | go_end0 | go_ret
   exact⟨rfl,g',qa l⟩
end
end Go.Proofs.YtjpmomdechibmaaGreatDoor
