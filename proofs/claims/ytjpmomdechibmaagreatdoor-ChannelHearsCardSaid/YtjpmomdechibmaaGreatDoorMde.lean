/-
  seal.Of, seal.Opens.
-/
import Derived.Test.YtjpmomdechibmaaGreatDoorMbj
import Derived.Test.YtjpmomdechibmaaGreatDoorMda
import Derived.Test.YtjpmomdechibmaaGreatDoorShR4
set_option linter.unusedVariables false
set_option linter.unusedSimpArgs false
namespace Go.Proofs.YtjpmomdechibmaaGreatDoor
open Go.RowKit
attribute [local go_sem ↓ high] z7 qal qan qa0 qvr
attribute [local go_sem] qcp qdl qdr qfx zn
def ofI(p:List Int):List Int:=qft (strOfNums p)
def qhn(p h:List Int):Bool:=ofI p==h
set_option maxRecDepth 100000 in
set_option maxHeartbeats 1000000 in
theorem qz3(p:List Int)(x:p.length=32)(w:World)(H:Tabs w) :
  Calls Tryz.prog 78 #[.agg (zb p).toArray] w (qa5 (.agg (zb (ofI p)).toArray) w):=by
 have v:(ofI p).length=32:=qb8 _
 go_enter Tryz.func78,Tryz.ntmps78
 go_upto_region 1 with fail
 have q:=(qby w p x).new ((Upd.refl _ _).alloc (.cells (zb zz).toArray 28))
 have m:=qby (w.alloc (.cells (zb p).toArray 28)) zz qo
 rw[World.size_alloc] at m
 have t:qx w ((w.alloc (.cells (zb p).toArray 28)).alloc (.cells (zb zz).toArray 28)):=((Upd.refl _ _).alloc _).alloc _
 generalize (w.alloc (.cells (zb p).toArray 28)).alloc (.cells (zb zz).toArray 28)=w1 at q m t ⊢
 obtain⟨A,l⟩:∃A,A=w.heap.size:=⟨_,rfl⟩
 obtain⟨B,o⟩:∃B,B=w.heap.size+1:=⟨_,rfl⟩
 rw[←o] at m ⊢
 rw[←l] at q ⊢
 have E:w.heap.size≤B:=by omega
 clear l o
 have j:(convert 111 9 (.slice (some ⟨A,0,none⟩) 32 32)).run Tryz.prog w1 = .ok (.string (strOfNums p)) w1 :=
  qeb w1 _ _ _ Tryz.underlying111 Tryz.underlying5 Tryz.underlying9 A 32 _ _ _ 32 x q.at_
 have f:Calls Tryz.prog 84 #[.string (strOfNums p)] w1 (fun e w'=>e = .returned (.agg (zb (ofI p)).toArray)∧qx w1 w'):=qje (strOfNums p) w1 (by rw[strOfNums_size,x];omega) (H.new t)
 have z:=qb m
 clear q m
 generalize ofI p=K at *
 go_wp2_with fail
 refine f.mono ?_
 rintro e J ⟨rfl,y⟩
 have g:=(qa z).new y
 have I:=g.stOk K v
 have C:=qb (g.put K v)
 have D:=qb ((t.trans y).then (qad (w:=J) (b:=B) (zb K)) (fun i L e=>by omega))
 clear g t y f j
 go_wp2_with fail
 have F:=qa C
 exact bodyPost_ret (results_cell_row rfl _ _ B _ _ _ _ rfl F.at_ Tryz.underlying28 rfl (by rw[List.size_toArray,qaw,v];exact Tryz.infoHsh)) rfl ⟨rfl,qa D⟩
set_option maxRecDepth 100000 in
set_option maxHeartbeats 1000000 in
theorem qsf(p h:List Int)(y:p.length=32)(v:h.length=32)(J:qaz h)(w:World)(H:Tabs w) :
  Calls Tryz.prog 48 #[.agg (zb p).toArray,.agg (zb h).toArray] w (qa5 (.bool (qhn p h)) w):=by
 have M:(ofI p).length=32:=qb8 _
 have q:qaz (ofI p):=qel _
 go_enter Tryz.func48,Tryz.ntmps48
 go_upto_region 1 with fail
 have m:=(qby w p y).new ((Upd.refl _ _).alloc (.cells (zb h).toArray 28))
 have g:=qby (w.alloc (.cells (zb p).toArray 28)) h v
 rw[World.size_alloc] at g
 have o:qx w ((w.alloc (.cells (zb p).toArray 28)).alloc (.cells (zb h).toArray 28)):=((Upd.refl _ _).alloc _).alloc _
 generalize (w.alloc (.cells (zb p).toArray 28)).alloc (.cells (zb h).toArray 28)=w1 at m g o ⊢
 obtain⟨A,i⟩:∃A,A=w.heap.size:=⟨_,rfl⟩
 obtain⟨B,j⟩:∃B,B=w.heap.size+1:=⟨_,rfl⟩
 rw[←j] at g ⊢
 rw[←i] at m ⊢
 clear i j
 have L:=fun W=>zb6 M v q J W
 have l:=fun W (I:Tabs W)=>qz3 p y W I
 have x:qhn p h=(ofI p==h):=rfl
 have F:=qb x
 clear x
 generalize ofI p=K at *
 have N:zr w1.drew A 0 32=some (zb p).toArray:=m.row
 have C:zr w1.drew B 0 32=some (zb h).toArray:=g.row
 have D:=qb g
 refine qb2 (fun w'=>zr w' B 0 32=some (zb h).toArray) [2] (.of [0,1,2,3,4]) (by kernel_rfl) (by kernel_rfl) C ?_
 simp only[Plan.of]
 clear m g
 go_wp2_with (with_reducible first|(first|refine' qw1 (qh ?_) ?_|refine' qw2 (qh ?_) ?_|refine' qw3 (qh ?_) ?_);rotate_left|refine' qw4 (qh ?_)|refine' qw5 (qh ?_)|rfl|apply qn)
 refine(l w1.drew (H.new (o.drew))).mono ?_
 rintro e O ⟨rfl,z⟩
 have f:qx w1 O:=z.ofDrew
 have t:=((qa D).new f).row
 have E:=qb (o.trans f)
 clear l N C z f o
 go_wp2_with (with_reducible first|(first|refine' qw1 (qh ?_) ?_|refine' qw2 (qh ?_) ?_|refine' qw3 (qh ?_) ?_);rotate_left|refine' qw4 (qh ?_)|refine' qw5 (qh ?_)|rfl|apply qn)
 refine⟨t,?_⟩
 go_wp2_with (with_reducible first|(first|refine' qw1 (qh ?_) ?_|refine' qw2 (qh ?_) ?_|refine' qw3 (qh ?_) ?_);rotate_left|refine' qw4 (qh ?_)|refine' qw5 (qh ?_)|rfl|apply qn)
 go_ret
 exact⟨by rw[qa F];rfl,qa E⟩
end Go.Proofs.YtjpmomdechibmaaGreatDoor
namespace Go.Proofs.YtjpmomdechibmaaGreatDoor
open Go.RowKit
attribute [local go_sem ↓ high] z7 qal qan qa0
attribute [local go_sem] qcp qdl qdr zn
theorem q0v(x:Int)(w:World):(q0u #[(0,.int .u8 x)]).run Tryz.prog w = .ok (.agg (zb (x::List.replicate 31 0)).toArray) w:=run_build w _ _ _ (by kernel_rfl)
theorem q81(x y:Int)(w:World):(q0u #[(0,.int .u8 x),(1,.int .u8 y)]).run Tryz.prog w = .ok (.agg (zb (x::y::List.replicate 30 0)).toArray) w:=run_build w _ _ _ (by kernel_rfl)
def qfd(p:Int):List Int:=(p%4)::9::List.replicate 30 0
theorem qd1(p:Int):(qfd p).length=32:=rfl
theorem qp7(p:Int):qaz (qfd p):=by
 intro b f
 unfold qfd at f
 simp only[List.mem_cons,List.mem_replicate] at f
 rcases f with rfl | rfl | ⟨_,rfl⟩<;>omega
set_option maxRecDepth 100000 in
set_option maxHeartbeats 1000000 in
theorem qew(p:Int)(x:0≤p∧p≤255)(w:World):Calls Tryz.prog 25 #[.int .u8 p] w (qa5 (.agg (zb (qfd p)).toArray) w):=by
 go_enter Tryz.func25,Tryz.ntmps25
 go_upto_region 1 with fail
 have f:=qby w zz qo
 have m:qx w (w.alloc (.cells (zb zz).toArray 28)):=(Upd.refl _ _).alloc _
 generalize w.alloc (.cells (zb zz).toArray 28)=w1 at f m ⊢
 obtain⟨B,g⟩:∃B,B=w.heap.size:=⟨_,rfl⟩
 rw[←g] at f ⊢
 have v:w.heap.size≤B:=by omega
 clear g
 have C:p.tmod 4=p%4:=Int.tmod_eq_emod_of_nonneg x.1
 have l:=fun W=>q81 (p%4) 9 W
 have y:=f.stOk _ (qd1 p)
 have q:=qb (f.put _ (qd1 p))
 have t:=qb (m.then (qad (w:=w1) (b:=B) (zb (qfd p))) (fun i z e=>by omega))
 have j:(p%4::9::List.replicate 30 0)=qfd p:=rfl
 rw[j] at l
 clear f m j
 generalize qfd p=K at *
 go_wp2_with fail
 have o:=qa q
 exact bodyPost_ret (results_cell_row rfl _ _ B _ _ _ _ rfl o.at_ Tryz.underlying28 rfl (by rw[List.size_toArray,qaw,o.len];exact Tryz.infoHsh)) rfl ⟨rfl,qa t⟩
set_option maxRecDepth 100000 in
set_option maxHeartbeats 1000000 in
theorem qks(p:List Int)(v:p.length=32)(w:World):Calls Tryz.prog 24 #[.agg (zb p).toArray] w (qa5 (.agg (zb (ofI p)).toArray) w):=by
 have t:(ofI p).length=32:=qb8 _
 go_enter Tryz.func24,Tryz.ntmps24
 go_upto_region 1 with fail
 have q:=(qby w p v).new ((Upd.refl _ _).alloc (.cells (zb zz).toArray 28))
 have m:=qby (w.alloc (.cells (zb p).toArray 28)) zz qo
 rw[World.size_alloc] at m
 have x:qx w ((w.alloc (.cells (zb p).toArray 28)).alloc (.cells (zb zz).toArray 28)):=((Upd.refl _ _).alloc _).alloc _
 generalize (w.alloc (.cells (zb p).toArray 28)).alloc (.cells (zb zz).toArray 28)=w1 at q m x ⊢
 obtain⟨A,l⟩:∃A,A=w.heap.size:=⟨_,rfl⟩
 obtain⟨B,o⟩:∃B,B=w.heap.size+1:=⟨_,rfl⟩
 rw[←o] at m ⊢
 rw[←l] at q ⊢
 have E:w.heap.size≤B:=by omega
 clear l o
 have j:(convert 111 9 (.slice (some ⟨A,0,none⟩) 32 32)).run Tryz.prog w1 = .ok (.string (strOfNums p)) w1 :=
  qeb w1 _ _ _ Tryz.underlying111 Tryz.underlying5 Tryz.underlying9 A 32 _ _ _ 32 v q.at_
 have f:Calls Tryz.prog 46 #[.string (strOfNums p)] w1 (fun e w'=>e = .returned (.agg (zb (ofI p)).toArray)∧qx w1 w'):=q8b (strOfNums p) w1 (by rw[strOfNums_size,v];omega)
 have z:=qb m
 clear q m
 generalize ofI p=K at *
 go_wp2_with fail
 refine f.mono ?_
 rintro e I ⟨rfl,y⟩
 have g:=(qa z).new y
 have H:=g.stOk K t
 have C:=qb (g.put K t)
 have D:=qb ((x.trans y).then (qad (w:=I) (b:=B) (zb K)) (fun i J e=>by omega))
 clear g x y f j
 go_wp2_with fail
 have F:=qa C
 exact bodyPost_ret (results_cell_row rfl _ _ B _ _ _ _ rfl F.at_ Tryz.underlying28 rfl (by rw[List.size_toArray,qaw,t];exact Tryz.infoHsh)) rfl ⟨rfl,qa D⟩
def Ch.new(s:SetupV):Ch:=⟨s,.zero,s.ours,s.cap-s.ours,[],List.replicate 17 .zero,[],[]⟩
theorem Ch.new_ok{s:SetupV}(h:s.Ok)(m:s.may):(Ch.new s).Ok:=by
 obtain⟨m1,l,o,_,_⟩:=m
 have g:=h.ours
 have j:=h.cap
 refine⟨h,⟨Int.le_refl _,show (0:Int)≤65535 by decide⟩,⟨Int.le_refl _,show (0:Int)<4294967296 by decide⟩,⟨Int.le_refl _,show (0:Int)<18446744073709551616 by decide⟩,⟨Int.le_refl _,show (0:Int)<18446744073709551616 by decide⟩,g,?_,?_,Nat.zero_le _,⟨rfl,?_⟩,?_,?_,⟨Nat.zero_le _,Nat.zero_le _⟩⟩
 ·show 0≤s.cap-s.ours∧s.cap-s.ours<_
  omega
 ·intro x f;cases f
 ·intro p i;rw[List.eq_of_mem_replicate i];rfl
 ·intro x f;cases f
 ·intro x f;cases f
theorem Ch.new_shelf(s:SetupV):qov (Ch.new s):=by
 intro p g b f
 rw[List.eq_of_mem_replicate g] at f
 have:=List.eq_of_mem_replicate f
 omega
theorem qof{w:World}{g:Nat}{s:SetupV}(h:ChR w g (.new s))(i:s.Ok)(m:s.may):ChS w g (· = g) (Ch.new s):=by
 refine⟨qbl,qbl,qbl,h.at_,Ch.new_ok i m,World.ownsRow_nil _ _ _ _,World.ownsRow_nil _ _ _ _,World.ownsRow_nil _ _ _ _,rfl,?_,?_,?_,?_,?_⟩
 ·intro k f;simp[qbl,Value.ownBlock] at f
 ·intro k f;simp[qbl,Value.ownBlock] at f
 ·intro k f;simp[qbl,Value.ownBlock] at f
 ·intro k f;simp[qbl,Value.ownBlock] at f
 ·intro k f;rw[f];exact zq h.at_
def qef(x:Int):List Int:=x::List.replicate 31 0
def qfy(ours cap:Int):SetupV:=⟨7,cap,ours,qef 1,⟨#[97]⟩,⟨#[98]⟩⟩
def qjc(ours cap:Int):SetupV:=⟨7,cap,IntKind.u64.wrap (cap-ours),qef 2,⟨#[98]⟩,⟨#[97]⟩⟩
theorem q1j{ours cap:Int}(f:0≤ours∧ours<18446744073709551616)(g:0≤cap∧cap<18446744073709551616):(qfy ours cap).Ok:=⟨by show (0:Int)≤7∧(7:Int)<4294967296;decide,g,f,rfl⟩
theorem q1k{ours cap:Int}(f:0≤cap∧cap<18446744073709551616):(qjc ours cap).Ok:=⟨by show (0:Int)≤7∧(7:Int)<4294967296;decide,f,qoq _,rfl⟩
def q5a(p:Array (Nat × Value)):Sem Value:=Instr.build 57 p
theorem qni(p:Array (Nat × Value)):Instr.build 57 p=q5a p:=rfl
theorem q84(ours cap:Int)(w:World):(q5a #[(0,.int .u32 7),(1,.int .u64 cap),(2,.int .u64 ours),(3,.agg (zb (qef 1)).toArray),(4,.string ⟨#[97]⟩),(5,.string ⟨#[98]⟩)]).run Tryz.prog w = .ok (.agg (qfy ours cap).cells.toArray) w:=run_build w _ _ _ (by kernel_rfl)
theorem q85(o cap:Int)(w:World):(q5a #[(0,.int .u32 7),(1,.int .u64 cap),(2,.int .u64 o),(3,.agg (zb (qef 2)).toArray),(4,.string ⟨#[98]⟩),(5,.string ⟨#[97]⟩)]).run Tryz.prog w = .ok (.agg (SetupV.cells ⟨7,cap,o,qef 2,⟨#[98]⟩,⟨#[97]⟩⟩).toArray) w:=run_build w _ _ _ (by kernel_rfl)
def za4(p:Array (Nat × Value)):Sem Value:=Instr.build 82 p
theorem qnj(p:Array (Nat × Value)):Instr.build 82 p=za4 p:=rfl
def qie(a b:SetupV):List Value:=a.cells++b.cells
theorem Tryz.infoSt2:(Tryz.prog.info? 82).map (·.size)=some 74:=by kernel_rfl
def zbr(x v:Value):Sem Unit:=Instr.storeAt 82 x v
theorem qkh(x v:Value):Instr.storeAt 82 x v=zbr x v:=rfl
theorem q0f(b o:Nat)(A:Array Value)(w:World):(zbr (.pointer (some ⟨b,o,none⟩)) (.agg A)).run Tryz.prog w=if stOk w b o 74 A=true then .ok () (w.setCells b o A.toList) else qfe Tryz.prog 82 w b o A :=
 qap 82 74 Tryz.infoSt2 b o A w
def qna:List Value:=quy++quy
def za3:Sem Value:=Instr.alloc 82 true (.tuple #[])
theorem qjq:Instr.alloc 82 true (.tuple #[])=za3:=rfl
theorem qyc(w:World):za3.run Tryz.prog w = .ok (.pointer (some ⟨w.heap.size,0,none⟩)) (w.alloc (.cells qna.toArray 82)):=by kernel_rfl
theorem zb2(i f j g:Int)(w:World):(za4 #[(0,.agg (qfy i f).cells.toArray),(1,.agg (SetupV.cells ⟨7,g,j,qef 2,⟨#[98]⟩,⟨#[97]⟩⟩).toArray)]).run Tryz.prog w = .ok (.agg (qie (qfy i f) ⟨7,g,j,qef 2,⟨#[98]⟩,⟨#[97]⟩⟩).toArray) w:=run_build w _ _ _ (by kernel_rfl)
theorem SetupV.one(s:SetupV):∀v∈s.cells,v.oneCell'=true:=by
 intro v f
 simp only[SetupV.cells,List.mem_cons,List.mem_append,List.mem_map,List.not_mem_nil,or_false] at f
 rcases f with rfl | rfl | rfl | ⟨n,_,rfl⟩ | rfl | rfl<;>rfl
structure St2(w:World)(b:Nat)(s t:SetupV):Prop where
 at_:w.heap[b]? = some (.cells (qie s t).toArray 82 (0,0))
 l1:s.seed.length=32
 l2:t.seed.length=32
theorem qkt{s t:SetupV}(f:s.seed.length=32)(g:t.seed.length=32):(qie s t).length=74:=by unfold qie;rw[List.length_append,s.len f,t.len g]
theorem St2.upd{S:Nat→Prop}{w w':World}{b:Nat}{s t:SetupV}(a:St2 w b s t)(u:Upd S w w')(n:¬S b):St2 w' b s t:=⟨u.old a.at_ n,a.l1,a.l2⟩
theorem St2.new{w w':World}{b:Nat}{s t:SetupV}(a:St2 w b s t)(u:qx w w'):St2 w' b s t:=a.upd u (fun h=>h)
theorem St2.row0{w:World}{b:Nat}{s t:SetupV}(a:St2 w b s t):zr w b 0 37=some s.cells.toArray:=by
 rw[qbz a.at_ 0 37 (by rw[List.size_toArray,qkt a.l1 a.l2];omega)]
 congr 1
 apply Array.ext'
 rw[Array.toList_extract]
 show List.extract (s.cells++t.cells) 0 37=s.cells
 rw[List.extract_eq_take_drop,List.drop_zero,List.take_append_of_le_length (by rw[s.len a.l1];exact Nat.le_refl _),List.take_of_length_le (by rw[s.len a.l1];exact Nat.le_refl _)]
theorem St2.row1{w:World}{b:Nat}{s t:SetupV}(a:St2 w b s t):zr w b 37 37=some t.cells.toArray:=by
 rw[qbz a.at_ 37 37 (by rw[List.size_toArray,qkt a.l1 a.l2];omega)]
 congr 1
 apply Array.ext'
 rw[Array.toList_extract]
 show List.extract (s.cells++t.cells) 37 74=t.cells
 rw[List.extract_eq_take_drop,qo7 (s.len a.l1),List.take_of_length_le (by rw[t.len a.l2];exact Nat.le_refl _)]
theorem qm5{w:World}{b:Nat}(h:w.heap[b]? = some (.cells qna.toArray 82 (0,0))){s t:SetupV}(f:s.seed.length=32)(g:t.seed.length=32) :
  stOk w b 0 74 (qie s t).toArray=true∧St2 (w.setCells b 0 (qie s t)) b s t:=by
 have i:=qkt f g
 refine⟨qez (C:=qna.toArray) h (by rw[i];rfl) (fun v j=>(List.mem_append.1 j).elim (s.one v) (t.one v)),⟨?_,f,g⟩⟩
 rw[qa1 h 0 _]
 exact congrArg (fun z=>some (Obj.cells z 82 (0,0))) (qcu qna.toArray (qie s t) (by rw[i];rfl))
attribute [local go_sem ↓ high] qni qnj qkh qjq
attribute [local go_sem] zb2 q0f qyc q84 q85
set_option maxRecDepth 100000 in
set_option maxHeartbeats 1000000 in
theorem qqh(ours cap:Int)(w:World):Calls Tryz.prog 36 #[.int .u64 ours,.int .u64 cap] w (qa5 (.agg (qie (qfy ours cap) (qjc ours cap)).toArray) w):=by
 go_enter Tryz.func36,Tryz.ntmps36
 go_upto_region 1 with fail
 have l:=qi w (.cells qna.toArray 82)
 have o:qx w (w.alloc (.cells qna.toArray 82)):=(Upd.refl _ _).alloc _
 generalize w.alloc (.cells qna.toArray 82)=w1 at l o ⊢
 obtain⟨B,j⟩:∃B,B=w.heap.size:=⟨_,rfl⟩
 rw[←j] at l ⊢
 have E:w.heap.size≤B:=by omega
 clear j
 obtain⟨m,g⟩:=qm5 l (s:=qfy ours cap) (t:=qjc ours cap) rfl rfl
 have f:qjc ours cap=⟨7,cap,IntKind.u64.wrap (cap-ours),qef 2,⟨#[98]⟩,⟨#[97]⟩⟩:=rfl
 have C:=fun W=>q0v 1 W
 have D:=fun W=>q0v 2 W
 have x:(1:Int)::List.replicate 31 0=qef 1:=rfl
 have y:(2:Int)::List.replicate 31 0=qef 2:=rfl
 rw[x] at C
 rw[y] at D
 have q:=qb g
 have v:=qb (o.then (qad (w:=w1) (b:=B) (qie (qfy ours cap) (qjc ours cap))) (fun i F e=>by omega))
 clear g l o x y
 rw[f] at m q v
 have z:=qb f
 clear f
 go_wp2_with fail
 have g:=qa q
 rw[qa z]
 exact bodyPost_ret (results_cell_row rfl _ _ B _ _ _ _ rfl g.at_ Tryz.underlying82 rfl (by rw[List.size_toArray,qkt g.l1 g.l2];exact Tryz.infoSt2)) rfl ⟨rfl,qa v⟩
end Go.Proofs.YtjpmomdechibmaaGreatDoor
namespace Go.Proofs.YtjpmomdechibmaaGreatDoor
open Go.RowKit
structure Two(w0 w:World)(gA gB:Nat)(SA SB:Nat→Prop)(a b:Ch):Prop where
 A:ChS w gA SA a
 B:ChS w gB SB b
 geA:∀k,SA k→w0.heap.size≤k
 geB:∀k,SB k→w0.heap.size≤k
 sep:∀k,SA k→¬SB k
 n:qx w0 w
section
variable {w0 w w':World}{gA gB:Nat}{SA SB:Nat→Prop}{a b a' b':Ch}
theorem Two.new(h:Two w0 w gA gB SA SB a b)(u:qx w w'):Two w0 w' gA gB SA SB a b:=⟨h.A.new u,h.B.new u,h.geA,h.geB,h.sep,h.n.trans u⟩
theorem Two.opA(h:Two w0 w gA gB SA SB a b)(j:ChS w' gA (Fr SA w w') a')(u:Upd SA w w'):Two w0 w' gA gB (Fr SA w w') SB a' b:=by
 refine⟨j,h.B.upd u (fun k f e=>h.sep k e f),?_,h.geB,?_,h.n.then u (fun i l e=>by have:=h.geA i e;omega)⟩
 ·rintro k (f | f)
  ·exact h.geA k f
  ·have:=h.n.size
   omega
 ·rintro k (f | f) g
  ·exact h.sep k f g
  ·have:=h.B.lt k g
   omega
theorem Two.swap(h:Two w0 w gA gB SA SB a b):Two w0 w gB gA SB SA b a:=⟨h.B,h.A,h.geB,h.geA,fun k g f=>h.sep k f g,h.n⟩
theorem Two.opB(h:Two w0 w gA gB SA SB a b)(f:ChS w' gB (Fr SB w w') b')(u:Upd SB w w'):Two w0 w' gA gB SA (Fr SB w w') a b':=(h.swap.opA f u).swap
theorem qu9{S:Nat→Prop}(t:Tb w0)(ge:∀k,S k→w0.heap.size≤k):Apart S:=by
 obtain⟨a,b,c,d,e⟩:=t.lt
 exact⟨fun h=>by have:=ge _ h;omega,fun h=>by have:=ge _ h;omega,fun h=>by have:=ge _ h;omega,fun h=>by have:=ge _ h;omega,fun h=>by have:=ge _ h;omega⟩
theorem Two.apA(h:Two w0 w gA gB SA SB a b)(t:Tb w0):Apart SA:=qu9 t h.geA
theorem Two.apB(h:Two w0 w gA gB SA SB a b)(t:Tb w0):Apart SB:=qu9 t h.geB
structure Off(w:World)(SA SB:Nat→Prop)(K:Nat):Prop where
 lt:K<w.heap.size
 a:¬SA K
 b:¬SB K
theorem Off.new{K:Nat}(h:Off w SA SB K)(u:w.heap.size≤w'.heap.size):Off w' SA SB K:=⟨by have:=h.lt;omega,h.a,h.b⟩
theorem Off.opA{K:Nat}(h:Off w SA SB K)(u:Upd SA w w'):Off w' (Fr SA w w') SB K:=by
 refine⟨Nat.lt_of_lt_of_le h.lt u.size,?_,h.b⟩
 rintro (k | k)
 ·exact h.a k
 ·have:=h.lt
  omega
theorem Off.opB{K:Nat}(h:Off w SA SB K)(u:Upd SB w w'):Off w' SA (Fr SB w w') K:=by
 refine⟨Nat.lt_of_lt_of_le h.lt u.size,h.a,?_⟩
 rintro (k | k)
 ·exact h.b k
 ·have:=h.lt
  omega
theorem Off.fresh{K:Nat}(h:Two w0 w gA gB SA SB a b)(g:w.heap.size≤K)(f:K<w'.heap.size):Off w' SA SB K :=
 ⟨f,fun k=>by have:=h.A.lt K k;omega,fun k=>by have:=h.B.lt K k;omega⟩
theorem Two.put{K:Nat}(h:Two w0 w gA gB SA SB a b)(o:Off w SA SB K)(g:w0.heap.size≤K)(u:Upd (· = K) w w'):Two w0 w' gA gB SA SB a b :=
 ⟨h.A.upd u (fun k f e=>o.a (e▸f)),h.B.upd u (fun k f e=>o.b (e▸f)),h.geA,h.geB,h.sep,h.n.then u (fun i j e=>by omega)⟩
end
theorem qp5(g:Nat)(S:Nat→Prop)(c:Ch)(n:Int)(h:List Int)(ex:Int)(w:World)(l:ChS w g S c)(i:h.length=32)(j:qaz h)(m:0≤n∧n<18446744073709551616)(o : -9223372036854775808≤ex∧ex≤9223372036854775807)(f:c.news.length<1000000∧c.xs.length<1000000) :
  Calls Tryz.prog 13 #[.pointer (some ⟨g,0,none⟩),.int .u64 n,.agg (zb h).toArray,.int .i64 ex] w fun e w' =>
   e = .returned (.tuple #[.agg (c.offer n (qhx h) ex).2.1.cells.toArray,.int .i64 (c.offer n (qhx h) ex).2.2])∧ChS w' g (Fr S w w') (c.offer n (qhx h) ex).1∧Upd S w w':=by
 have:=q3o g S c n (qhx h) ex w l m o (by rw[qfb i];exact j) f
 rw[qfb i] at this
 exact this
theorem qmr(g:Nat)(S:Nat→Prop)(c:Ch)(w:World)(h:ChS w g S c):Calls Tryz.prog 21 #[.pointer (some ⟨g,0,none⟩)] w (qa5 (.agg #[.int .u64 c.loc,.int .u64 c.rem]) w):=by
 obtain⟨i,nv,f,h⟩:=h
 exact q45 g _ w h.toR
theorem qr8(g:Nat)(S:Nat→Prop)(c:Ch)(w:World)(h:ChS w g S c):Calls Tryz.prog 17 #[.pointer (some ⟨g,0,none⟩)] w fun e w'=>∃u,e = .returned u∧qx w w'∧((∃a k,u = .slice a 0 k∧c.xs=[])∨∃g' cap,u = .slice (some ⟨g',0,none⟩) c.xs.length cap∧w.heap.size≤g'∧qfp w' g' 0 c.xs):=by
 obtain⟨i,nv,f,h⟩:=h
 exact q6x g _ c.xs (by have:=h.ok.few;omega) w h.toI
theorem qcj.row0{base:Nat}{w:World}{v:Value}{m:MsgV}{i:List MsgV}(h:qcj base w v (m::i))(o:m.hash.length=32):∃g cap,v = .slice (some ⟨g,0,none⟩) (m::i).length cap∧base≤g∧zr w g 0 38=some m.cells.toArray∧g<w.heap.size:=by
 rcases h.2 with ⟨e,q⟩ | ⟨g,cap,f,e,t,l,x,_,y,C⟩
 ·simp at q
 ·refine⟨g,cap,e,t,?_,zq l⟩
  have z:38≤f.size:=by rw[y];simp at x;omega
  rw[qbz l 0 38 (by omega)]
  congr 1
  apply Array.ext'
  rw[Array.toList_extract,List.extract_eq_take_drop,List.drop_zero]
  have j:(f.toList.take ((m::i).length*38)).take 38=((m::i).flatMap MsgV.cells).take 38:=by rw[C]
  rw[List.take_take,Nat.min_eq_left (by rw[List.length_cons];omega)] at j
  show f.toList.take 38=m.cells
  rw[j,List.flatMap_cons,List.take_append_of_le_length (by rw[m.len o];exact Nat.le_refl _),List.take_of_length_le (by rw[m.len o];exact Nat.le_refl _)]
theorem qrq(a b:Int)(w:World):(Instr.field 53 (.agg #[.int .u64 a,.int .u64 b]) 0).run Tryz.prog w = .ok (.int .u64 a) w:=by kernel_rfl
theorem qrr(a b:Int)(w:World):(Instr.field 53 (.agg #[.int .u64 a,.int .u64 b]) 1).run Tryz.prog w = .ok (.int .u64 b) w:=by kernel_rfl
theorem qqr(key:ByteArray)(ch n l r:Int)(xs:List Live):zx true key ch n r l (xs.map qhu)=zx false key ch n l r xs:=by
 have f:=qzc false xs
 have g:=q4f false l r xs
 unfold zx qhb qhc
 simp only[Bool.not_false] at f g
 rw[f,g]
 rfl
theorem q0a{c:Ch}{l r n:Int}{xs:List Live}{key:ByteArray}{ch:Int}(f:c.signing.loc=l)(g:c.signing.rem=r)(i:c.signing.xs=xs)(j:c.k.signed=n)(m:c.s.key=key)(o:c.s.ch=ch):qao c=⟨6,0,0,0,zx false key ch (n+1) l r xs,0,n+1⟩:=by
 unfold qao
 rw[f,g,i,j,m,o]
theorem zbk{m:MsgV}{k i a:Int}{h:List Int}{e n:Int}(ch:Int)(f:m=⟨k,0,i,a,h,e,n⟩):m.on ch=⟨k,ch,i,a,h,e,n⟩:=by subst f;rfl
theorem qsm{c:Ch}(h:qfn c=0):c.sign=((c.signing.say (qao c)).turned,(qao c).on c.s.ch,0):=by unfold Ch.sign;rw[if_pos h]
theorem qk2{c:Ch}{m:MsgV}(f:qbe 3 c.xs=true)(g:m.number=c.k.heard+1)(i:qhi c m=false):c.hearSign m=(c.signedBy,[c.signedBy.revocation],0):=by
 have h:qct c m=0:=by
  unfold qct
  rw[f,i,if_neg (by decide),if_neg (fun h=>h g),if_neg (by decide)]
 unfold Ch.hearSign
 rw[if_pos h]
theorem qgv{k ch i a e n:Int}{h:List Int}(q:0≤k∧k≤9)(j:0≤ch∧ch<4294967296)(l:0≤i∧i<18446744073709551616)(f:0≤a∧a<18446744073709551616)(m:h.length=32)(g:qaz h)(o:0≤e∧e≤2147483648)(t:0≤n∧n≤65536):MsgOk ⟨k,ch,i,a,h,e,n⟩ :=
 ⟨⟨by show _≤k;omega,by show k≤_;omega⟩,j,l,f,m,g,⟨by show _≤e;omega,by show e≤_;omega⟩,⟨by show _≤n;omega,by show n≤_;omega⟩⟩
theorem qgz:MsgOk MsgV.zero:=qgv ⟨by decide,by decide⟩ ⟨by decide,by decide⟩ ⟨by decide,by decide⟩ ⟨by decide,by decide⟩ qo qdn ⟨by decide,by decide⟩ ⟨by decide,by decide⟩
def a0:Ch:=Ch.new (qfy 10 10)
def b0:Ch:=Ch.new (qjc 10 10)
section
variable (hv:Vector Int 32)
def a1:Ch:=(a0.offer 4 hv 9).1
def m1:MsgV:=(a0.offer 4 hv 9).2.1
theorem zcu:a0.offer 4 hv 9=(a1 hv,⟨3,7,0,4,hv.toList,9,0⟩,0):=by kernel_rfl
theorem zds:m1 hv=⟨3,7,0,4,hv.toList,9,0⟩:=by kernel_rfl
theorem zde:(a1 hv).xs=[⟨⟨0,4,hv,9⟩,true,0,false⟩]:=by kernel_rfl
def b1:Ch:=(b0.hearAdd (m1 hv)).1
theorem q6c:b0.hearAdd (m1 hv)=(b1 hv,0):=by kernel_rfl
theorem q43(f:hv.toList.length=32):(b1 hv).xs=[⟨⟨0,4,hv,9⟩,false,0,false⟩]:=by
 have e:qhx hv.toList=hv:=by
  unfold qhx
  rw[dif_pos f]
  rfl
 have:(b1 hv).xs=[⟨⟨0,4,qhx hv.toList,9⟩,false,0,false⟩]:=by kernel_rfl
 rw[this,e]
noncomputable def a2:Ch:=(a1 hv).sign.1
noncomputable def qm8:List Int:=zx false ⟨#[97]⟩ 7 1 6 0 [⟨⟨0,4,hv,9⟩,true,1,false⟩]
theorem q0b:(a1 hv).signing.loc=6∧(a1 hv).signing.rem=0∧(a1 hv).signing.xs=[⟨⟨0,4,hv,9⟩,true,1,false⟩]∧(a1 hv).k.signed=0∧(a1 hv).s.key=⟨#[97]⟩∧(a1 hv).s.ch=7:=⟨by kernel_rfl,by kernel_rfl,by kernel_rfl,by kernel_rfl,by kernel_rfl,by kernel_rfl⟩
theorem zag:qfn (a1 hv)=0:=by kernel_rfl
theorem zak:(a1 hv).sign=(a2 hv,⟨6,7,0,0,qm8 hv,0,1⟩,0):=by
 obtain⟨j,l,m,o,q,i⟩:=q0b hv
 have g:=qsm (zag hv)
 have f:=q0a j l m o q i
 rw[show (0:Int)+1=1 from rfl] at f
 have t:qao (a1 hv)=⟨6,0,0,0,qm8 hv,0,1⟩:=by unfold qm8;exact f
 have v:=zbk 7 t
 rw[i,v] at g
 have w:a2 hv=((a1 hv).signing.say (qao (a1 hv))).turned:=congrArg Prod.fst g
 rw[g,w]
theorem q8h:(qm8 hv).length=32:=by unfold qm8;exact qhd _ _ _ _ _ _ _
theorem q0j:qaz (qm8 hv):=by unfold qm8 zx qqm;exact qel _
theorem q42:(b1 hv).s.peer=⟨#[97]⟩∧(b1 hv).s.ch=7∧(b1 hv).loc=0∧(b1 hv).rem=6∧(b1 hv).k.heard=0:=⟨by kernel_rfl,by kernel_rfl,by kernel_rfl,by kernel_rfl,by kernel_rfl⟩
noncomputable def b2:Ch:=(b1 hv).signedBy
theorem zcb(m:hv.toList.length=32):qhi (b1 hv) ⟨6,7,0,0,qm8 hv,0,1⟩=false:=by
 obtain⟨f,g,i,j,o⟩:=q42 hv
 have l:zk 3 (b1 hv).xs=[⟨⟨0,4,hv,9⟩,true,1,false⟩].map qhu:=by rw[q43 hv m];kernel_rfl
 unfold qhi
 simp only
 rw[f,g,i,j,l,qqr]
 unfold qm8
 exact bne_self_eq_false _
theorem qv5(f:hv.toList.length=32):(b1 hv).hearSign ⟨6,7,0,0,qm8 hv,0,1⟩=(b2 hv,[(b2 hv).revocation],0):=by
 have g:qbe 3 (b1 hv).xs=true:=by rw[q43 hv f];kernel_rfl
 exact qk2 g (by rw[(q42 hv).2.2.2.2];rfl) (zcb hv f)
theorem q44:(b2 hv).k.heard=1:=by kernel_rfl
theorem zcx:(b2 hv).revocation=⟨7,7,0,0,((b2 hv).secret 0).1,0,0⟩:=by
 unfold Ch.revocation
 rw[q44,show (1:Int)-1=0 from rfl]
 congr
theorem qxj:((b2 hv).secret 0).1=qb3 (qef 2) 65535 16:=by
 have:(b2 hv).secret 0=qcw (qef 2) 65535:=by kernel_rfl
 rw[this]
 unfold qcw
 rw[if_pos (by decide)]
 rfl
theorem qxk(x:Int)(h:0≤x∧x≤255):qaz (qef x):=by
 intro b f
 unfold qef at f
 rcases List.mem_cons.1 f with rfl | f
 ·exact h
 ·rw[List.eq_of_mem_replicate f];decide
noncomputable def a3:Ch:=((a2 hv).hearRevoke ⟨7,7,0,0,qb3 (qef 2) 65535 16,0,0⟩).1
theorem q4u:(a2 hv).k.awaits=true∧(a2 hv).k.signed=1∧(a2 hv).shelf=List.replicate 17 .zero∧(a2 hv).s.ch=7:=⟨by kernel_rfl,by kernel_rfl,by kernel_rfl,by kernel_rfl⟩
theorem q7r(R:List Int):qj9 (a2 hv) ⟨7,7,0,0,R,0,0⟩=0:=by
 obtain⟨f,g,i,-⟩:=q4u hv
 unfold qj9
 rw[f,g,i,if_neg (by decide),if_neg (by simp),if_neg]
 intro h
 apply h
 kernel_rfl
theorem qy3:(a2 hv).hearRevoke ⟨7,7,0,0,qb3 (qef 2) 65535 16,0,0⟩=(a3 hv,0):=by
 unfold a3 Ch.hearRevoke
 rw[if_pos (q7r hv _)]
theorem zdf:(a3 hv).loc=6∧(a3 hv).xs=[⟨⟨0,4,hv,9⟩,true,2,false⟩]:=by
 unfold a3 Ch.hearRevoke
 rw[if_pos (q7r hv _)]
 exact⟨by kernel_rfl,by kernel_rfl⟩
theorem zd6:qai ⟨3,7,0,4,hv.toList,9,0⟩=true:=by kernel_rfl
theorem zd7(T:List Int):qai ⟨6,7,0,0,T,0,1⟩=true:=by kernel_rfl
theorem zd8(R:List Int):qai ⟨7,7,0,0,R,0,0⟩=true:=by kernel_rfl
theorem q4v:qov (a2 hv):=by
 intro p f
 rw[(q4u hv).2.2.1] at f
 exact Ch.new_shelf (qfy 10 10) p f
theorem ql1:(a0).s.ch=7∧(b0).s.ch=7∧(a1 hv).s.ch=7∧(a1 hv).s.key=⟨#[97]⟩∧(a1 hv).news.length=1∧(a0).news.length=0∧(a0).xs.length=0∧(b0).xs.length=0:=⟨rfl,rfl,by kernel_rfl,by kernel_rfl,by kernel_rfl,rfl,rfl,rfl⟩
end
end Go.Proofs.YtjpmomdechibmaaGreatDoor
