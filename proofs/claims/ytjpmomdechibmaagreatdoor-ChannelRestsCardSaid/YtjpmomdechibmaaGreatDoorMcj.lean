/-
  seal.Of, seal.Opens.
-/
import Derived.Test.YtjpmomdechibmaaGreatDoorMbh
import Derived.Test.YtjpmomdechibmaaGreatDoorMcg
import Derived.Test.YtjpmomdechibmaaGreatDoorMci
set_option linter.unusedVariables false
set_option linter.unusedSimpArgs false
namespace Go.Proofs.YtjpmomdechibmaaGreatDoor
open Go.RowKit
attribute [local go_sem ↓ high] qaa qap qar qa1 qwv
attribute [local go_sem] qcx qdn qdt qfm zq
def ofI(p:List Int):List Int:=qf7 (strOfNums p)
def qg7(p h:List Int):Bool:=ofI p==h
set_option maxRecDepth 100000 in
set_option maxHeartbeats 1000000 in
theorem q1i(p:List Int)(y:p.length=32)(w:World)(I:Tabs w) :
  Calls Tryz.prog 78 #[.agg (zf p).toArray] w (qa7 (.agg (zf (ofI p)).toArray) w):=by
 have x:(ofI p).length=32:=qck _
 go_enter Tryz.func78,Tryz.ntmps78
 go_upto_region 1 with fail
 have t:=(qb9 w p y).new ((Upd.refl _ _).alloc (.cells (zf qad).toArray 28))
 have o:=qb9 (w.alloc (.cells (zf p).toArray 28)) qad qo
 rw[World.size_alloc] at o
 have v:qy w ((w.alloc (.cells (zf p).toArray 28)).alloc (.cells (zf qad).toArray 28)):=((Upd.refl _ _).alloc _).alloc _
 generalize (w.alloc (.cells (zf p).toArray 28)).alloc (.cells (zf qad).toArray 28)=w1 at t o v ⊢
 obtain⟨A,m⟩:∃A,A=w.heap.size:=⟨_,rfl⟩
 obtain⟨B,q⟩:∃B,B=w.heap.size+1:=⟨_,rfl⟩
 rw[←q] at o ⊢
 rw[←m] at t ⊢
 have F:w.heap.size≤B:=by omega
 clear m q
 have l:(convert 111 9 (.slice (some ⟨A,0,none⟩) 32 32)).run Tryz.prog w1 = .ok (.string (strOfNums p)) w1 :=
  qen w1 _ _ _ Tryz.underlying111 Tryz.underlying5 Tryz.underlying9 A 32 _ _ _ 32 y t.at_
 have f:Calls Tryz.prog 84 #[.string (strOfNums p)] w1 (fun e w'=>e = .returned (.agg (zf (ofI p)).toArray)∧qy w1 w'):=qjx (strOfNums p) w1 (by rw[strOfNums_size,y];omega) (I.new v)
 have C:=qb o
 clear t o
 generalize ofI p=K at *
 go_wp2_with fail
 refine f.mono ?_
 rintro e L ⟨rfl,z⟩
 have g:=(qa C).new z
 have J:=g.stOk K x
 have D:=qb (g.put K x)
 have E:=qb ((v.trans z).then (qak (w:=L) (b:=B) (zf K)) (fun i M e=>by omega))
 clear g v z f l
 go_wp2_with fail
 have H:=qa D
 exact bodyPost_ret (results_cell_row rfl _ _ B _ _ _ _ rfl H.at_ Tryz.underlying28 rfl (by rw[List.size_toArray,qa4,x];exact Tryz.infoHsh)) rfl ⟨rfl,qa E⟩
set_option maxRecDepth 100000 in
set_option maxHeartbeats 1000000 in
theorem qtl(p h:List Int)(z:p.length=32)(x:h.length=32)(L:qa6 h)(w:World)(I:Tabs w) :
  Calls Tryz.prog 48 #[.agg (zf p).toArray,.agg (zf h).toArray] w (qa7 (.bool (qg7 p h)) w):=by
 have N:(ofI p).length=32:=qck _
 have t:qa6 (ofI p):=qez _
 go_enter Tryz.func48,Tryz.ntmps48
 go_upto_region 1 with fail
 have o:=(qb9 w p z).new ((Upd.refl _ _).alloc (.cells (zf h).toArray 28))
 have g:=qb9 (w.alloc (.cells (zf p).toArray 28)) h x
 rw[World.size_alloc] at g
 have q:qy w ((w.alloc (.cells (zf p).toArray 28)).alloc (.cells (zf h).toArray 28)):=((Upd.refl _ _).alloc _).alloc _
 generalize (w.alloc (.cells (zf p).toArray 28)).alloc (.cells (zf h).toArray 28)=w1 at o g q ⊢
 obtain⟨A,i⟩:∃A,A=w.heap.size:=⟨_,rfl⟩
 obtain⟨B,l⟩:∃B,B=w.heap.size+1:=⟨_,rfl⟩
 rw[←l] at g ⊢
 rw[←i] at o ⊢
 clear i l
 have M:=fun W=>zd2 N x t L W
 have m:=fun W (J:Tabs W)=>q1i p z W J
 have y:qg7 p h=(ofI p==h):=rfl
 have H:=qb y
 clear y
 generalize ofI p=K at *
 have O:zx w1.drew A 0 32=some (zf p).toArray:=o.row
 have D:zx w1.drew B 0 32=some (zf h).toArray:=g.row
 have E:=qb g
 refine qb5 (fun w'=>zx w' B 0 32=some (zf h).toArray) [2] (.of [0,1,2,3,4]) (by kernel_rfl) (by kernel_rfl) D ?_
 simp only[Plan.of]
 clear o g
 go_wp2_with (with_reducible first|(first|refine' qw1 (qg ?_) ?_|refine' qw2 (qg ?_) ?_|refine' qw3 (qg ?_) ?_);rotate_left|refine' qw4 (qg ?_)|refine' qw5 (qg ?_)|rfl|apply qn)
 refine(m w1.drew (I.new (q.drew))).mono ?_
 rintro e P ⟨rfl,C⟩
 have f:qy w1 P:=C.ofDrew
 have v:=((qa E).new f).row
 have F:=qb (q.trans f)
 clear m O D C f q
 go_wp2_with (with_reducible first|(first|refine' qw1 (qg ?_) ?_|refine' qw2 (qg ?_) ?_|refine' qw3 (qg ?_) ?_);rotate_left|refine' qw4 (qg ?_)|refine' qw5 (qg ?_)|rfl|apply qn)
 refine⟨v,?_⟩
 go_wp2_with (with_reducible first|(first|refine' qw1 (qg ?_) ?_|refine' qw2 (qg ?_) ?_|refine' qw3 (qg ?_) ?_);rotate_left|refine' qw4 (qg ?_)|refine' qw5 (qg ?_)|rfl|apply qn)
 go_ret
 exact⟨by rw[qa H];rfl,qa F⟩
end Go.Proofs.YtjpmomdechibmaaGreatDoor
namespace Go.Proofs.YtjpmomdechibmaaGreatDoor
open Go.RowKit
attribute [local go_sem ↓ high] qaa qap qar qa1
attribute [local go_sem] qcx qdn qdt zq
theorem q2d(x:Int)(w:World):(q2c #[(0,.int .u8 x)]).run Tryz.prog w = .ok (.agg (zf (x::List.replicate 31 0)).toArray) w:=run_build w _ _ _ (by kernel_rfl)
theorem zas(x y:Int)(w:World):(q2c #[(0,.int .u8 x),(1,.int .u8 y)]).run Tryz.prog w = .ok (.agg (zf (x::y::List.replicate 30 0)).toArray) w:=run_build w _ _ _ (by kernel_rfl)
def qfw(p:Int):List Int:=(p%4)::9::List.replicate 30 0
theorem qee(p:Int):(qfw p).length=32:=rfl
theorem qq9(p:Int):qa6 (qfw p):=by
 intro b f
 unfold qfw at f
 simp only[List.mem_cons,List.mem_replicate] at f
 rcases f with rfl | rfl | ⟨_,rfl⟩<;>omega
set_option maxRecDepth 100000 in
set_option maxHeartbeats 1000000 in
theorem qfb(p:Int)(y:0≤p∧p≤255)(w:World):Calls Tryz.prog 25 #[.int .u8 p] w (qa7 (.agg (zf (qfw p)).toArray) w):=by
 go_enter Tryz.func25,Tryz.ntmps25
 go_upto_region 1 with fail
 have f:=qb9 w qad qo
 have o:qy w (w.alloc (.cells (zf qad).toArray 28)):=(Upd.refl _ _).alloc _
 generalize w.alloc (.cells (zf qad).toArray 28)=w1 at f o ⊢
 obtain⟨B,g⟩:∃B,B=w.heap.size:=⟨_,rfl⟩
 rw[←g] at f ⊢
 have x:w.heap.size≤B:=by omega
 clear g
 have D:p.tmod 4=p%4:=Int.tmod_eq_emod_of_nonneg y.1
 have m:=fun W=>zas (p%4) 9 W
 have z:=f.stOk _ (qee p)
 have t:=qb (f.put _ (qee p))
 have v:=qb (o.then (qak (w:=w1) (b:=B) (zf (qfw p))) (fun i C e=>by omega))
 have l:(p%4::9::List.replicate 30 0)=qfw p:=rfl
 rw[l] at m
 clear f o l
 generalize qfw p=K at *
 go_wp2_with fail
 have q:=qa t
 exact bodyPost_ret (results_cell_row rfl _ _ B _ _ _ _ rfl q.at_ Tryz.underlying28 rfl (by rw[List.size_toArray,qa4,q.len];exact Tryz.infoHsh)) rfl ⟨rfl,qa v⟩
set_option maxRecDepth 100000 in
set_option maxHeartbeats 1000000 in
theorem qlc(p:List Int)(x:p.length=32)(w:World):Calls Tryz.prog 24 #[.agg (zf p).toArray] w (qa7 (.agg (zf (ofI p)).toArray) w):=by
 have v:(ofI p).length=32:=qck _
 go_enter Tryz.func24,Tryz.ntmps24
 go_upto_region 1 with fail
 have t:=(qb9 w p x).new ((Upd.refl _ _).alloc (.cells (zf qad).toArray 28))
 have o:=qb9 (w.alloc (.cells (zf p).toArray 28)) qad qo
 rw[World.size_alloc] at o
 have y:qy w ((w.alloc (.cells (zf p).toArray 28)).alloc (.cells (zf qad).toArray 28)):=((Upd.refl _ _).alloc _).alloc _
 generalize (w.alloc (.cells (zf p).toArray 28)).alloc (.cells (zf qad).toArray 28)=w1 at t o y ⊢
 obtain⟨A,m⟩:∃A,A=w.heap.size:=⟨_,rfl⟩
 obtain⟨B,q⟩:∃B,B=w.heap.size+1:=⟨_,rfl⟩
 rw[←q] at o ⊢
 rw[←m] at t ⊢
 have F:w.heap.size≤B:=by omega
 clear m q
 have l:(convert 111 9 (.slice (some ⟨A,0,none⟩) 32 32)).run Tryz.prog w1 = .ok (.string (strOfNums p)) w1 :=
  qen w1 _ _ _ Tryz.underlying111 Tryz.underlying5 Tryz.underlying9 A 32 _ _ _ 32 x t.at_
 have f:Calls Tryz.prog 46 #[.string (strOfNums p)] w1 (fun e w'=>e = .returned (.agg (zf (ofI p)).toArray)∧qy w1 w'):=q93 (strOfNums p) w1 (by rw[strOfNums_size,x];omega)
 have C:=qb o
 clear t o
 generalize ofI p=K at *
 go_wp2_with fail
 refine f.mono ?_
 rintro e J ⟨rfl,z⟩
 have g:=(qa C).new z
 have I:=g.stOk K v
 have D:=qb (g.put K v)
 have E:=qb ((y.trans z).then (qak (w:=J) (b:=B) (zf K)) (fun i L e=>by omega))
 clear g y z f l
 go_wp2_with fail
 have H:=qa D
 exact bodyPost_ret (results_cell_row rfl _ _ B _ _ _ _ rfl H.at_ Tryz.underlying28 rfl (by rw[List.size_toArray,qa4,v];exact Tryz.infoHsh)) rfl ⟨rfl,qa E⟩
def Ch.new(s:SetupV):Ch:=⟨s,.zero,s.ours,s.cap-s.ours,[],List.replicate 17 .zero,[],[]⟩
theorem Ch.new_ok{s:SetupV}(h:s.Ok)(m:s.may):(Ch.new s).Ok:=by
 obtain⟨m1,o,q,_,_⟩:=m
 have g:=h.ours
 have l:=h.cap
 refine⟨h,⟨Int.le_refl _,show (0:Int)≤65535 by decide⟩,⟨Int.le_refl _,show (0:Int)<4294967296 by decide⟩,⟨Int.le_refl _,show (0:Int)<18446744073709551616 by decide⟩,⟨Int.le_refl _,show (0:Int)<18446744073709551616 by decide⟩,g,?_,?_,Nat.zero_le _,⟨rfl,?_⟩,?_,?_,⟨Nat.zero_le _,Nat.zero_le _⟩⟩
 ·show 0≤s.cap-s.ours∧s.cap-s.ours<_
  omega
 ·intro x f;cases f
 ·intro p i;rw[List.eq_of_mem_replicate i];rfl
 ·intro x f;cases f
 ·intro x f;cases f
theorem Ch.new_shelf(s:SetupV):qpq (Ch.new s):=by
 intro p g b f
 rw[List.eq_of_mem_replicate g] at f
 have:=List.eq_of_mem_replicate f
 omega
theorem qo8{w:World}{g:Nat}{s:SetupV}(h:ChR w g (.new s))(i:s.Ok)(m:s.may):ChS w g (· = g) (Ch.new s):=by
 refine⟨qbt,qbt,qbt,h.at_,Ch.new_ok i m,World.ownsRow_nil _ _ _ _,World.ownsRow_nil _ _ _ _,World.ownsRow_nil _ _ _ _,rfl,?_,?_,?_,?_,?_⟩
 ·intro k f;simp[qbt,Value.ownBlock] at f
 ·intro k f;simp[qbt,Value.ownBlock] at f
 ·intro k f;simp[qbt,Value.ownBlock] at f
 ·intro k f;simp[qbt,Value.ownBlock] at f
 ·intro k f;rw[f];exact zw h.at_
def qet(x:Int):List Int:=x::List.replicate 31 0
def qga(ours cap:Int):SetupV:=⟨7,cap,ours,qet 1,⟨#[97]⟩,⟨#[98]⟩⟩
def qjv(ours cap:Int):SetupV:=⟨7,cap,IntKind.u64.wrap (cap-ours),qet 2,⟨#[98]⟩,⟨#[97]⟩⟩
theorem q28{ours cap:Int}(f:0≤ours∧ours<18446744073709551616)(g:0≤cap∧cap<18446744073709551616):(qga ours cap).Ok:=⟨by show (0:Int)≤7∧(7:Int)<4294967296;decide,g,f,rfl⟩
theorem q29{ours cap:Int}(f:0≤cap∧cap<18446744073709551616):(qjv ours cap).Ok:=⟨by show (0:Int)≤7∧(7:Int)<4294967296;decide,f,qpl _,rfl⟩
def q61(p:Array (Nat × Value)):Sem Value:=Instr.build 57 p
theorem qn9(p:Array (Nat × Value)):Instr.build 57 p=q61 p:=rfl
theorem zav(ours cap:Int)(w:World):(q61 #[(0,.int .u32 7),(1,.int .u64 cap),(2,.int .u64 ours),(3,.agg (zf (qet 1)).toArray),(4,.string ⟨#[97]⟩),(5,.string ⟨#[98]⟩)]).run Tryz.prog w = .ok (.agg (qga ours cap).cells.toArray) w:=run_build w _ _ _ (by kernel_rfl)
theorem zaw(o cap:Int)(w:World):(q61 #[(0,.int .u32 7),(1,.int .u64 cap),(2,.int .u64 o),(3,.agg (zf (qet 2)).toArray),(4,.string ⟨#[98]⟩),(5,.string ⟨#[97]⟩)]).run Tryz.prog w = .ok (.agg (SetupV.cells ⟨7,cap,o,qet 2,⟨#[98]⟩,⟨#[97]⟩⟩).toArray) w:=run_build w _ _ _ (by kernel_rfl)
def zcw(p:Array (Nat × Value)):Sem Value:=Instr.build 82 p
theorem qoa(p:Array (Nat × Value)):Instr.build 82 p=zcw p:=rfl
def qit(a b:SetupV):List Value:=a.cells++b.cells
theorem Tryz.infoSt2:(Tryz.prog.info? 82).map (·.size)=some 74:=by kernel_rfl
def zdl(x v:Value):Sem Unit:=Instr.storeAt 82 x v
theorem qk0(x v:Value):Instr.storeAt 82 x v=zdl x v:=rfl
theorem q1w(b o:Nat)(A:Array Value)(w:World):(zdl (.pointer (some ⟨b,o,none⟩)) (.agg A)).run Tryz.prog w=if stOk w b o 74 A=true then .ok () (w.setCells b o A.toList) else qfx Tryz.prog 82 w b o A :=
 qay 82 74 Tryz.infoSt2 b o A w
def qn0:List Value:=qv3++qv3
def zcu:Sem Value:=Instr.alloc 82 true (.tuple #[])
theorem qj9:Instr.alloc 82 true (.tuple #[])=zcu:=rfl
theorem qzj(w:World):zcu.run Tryz.prog w = .ok (.pointer (some ⟨w.heap.size,0,none⟩)) (w.alloc (.cells qn0.toArray 82)):=by kernel_rfl
theorem zdx(i f l g:Int)(w:World):(zcw #[(0,.agg (qga i f).cells.toArray),(1,.agg (SetupV.cells ⟨7,g,l,qet 2,⟨#[98]⟩,⟨#[97]⟩⟩).toArray)]).run Tryz.prog w = .ok (.agg (qit (qga i f) ⟨7,g,l,qet 2,⟨#[98]⟩,⟨#[97]⟩⟩).toArray) w:=run_build w _ _ _ (by kernel_rfl)
theorem SetupV.one(s:SetupV):∀v∈s.cells,v.oneCell'=true:=by
 intro v f
 simp only[SetupV.cells,List.mem_cons,List.mem_append,List.mem_map,List.not_mem_nil,or_false] at f
 rcases f with rfl | rfl | rfl | ⟨n,_,rfl⟩ | rfl | rfl<;>rfl
structure St2(w:World)(b:Nat)(s t:SetupV):Prop where
 at_:w.heap[b]? = some (.cells (qit s t).toArray 82 (0,0))
 l1:s.seed.length=32
 l2:t.seed.length=32
theorem qld{s t:SetupV}(f:s.seed.length=32)(g:t.seed.length=32):(qit s t).length=74:=by unfold qit;rw[List.length_append,s.len f,t.len g]
theorem St2.upd{S:Nat→Prop}{w w':World}{b:Nat}{s t:SetupV}(a:St2 w b s t)(u:Upd S w w')(n:¬S b):St2 w' b s t:=⟨u.old a.at_ n,a.l1,a.l2⟩
theorem St2.new{w w':World}{b:Nat}{s t:SetupV}(a:St2 w b s t)(u:qy w w'):St2 w' b s t:=a.upd u (fun h=>h)
theorem St2.row0{w:World}{b:Nat}{s t:SetupV}(a:St2 w b s t):zx w b 0 37=some s.cells.toArray:=by
 rw[qca a.at_ 0 37 (by rw[List.size_toArray,qld a.l1 a.l2];omega)]
 congr 1
 apply Array.ext'
 rw[Array.toList_extract]
 show List.extract (s.cells++t.cells) 0 37=s.cells
 rw[List.extract_eq_take_drop,List.drop_zero,List.take_append_of_le_length (by rw[s.len a.l1];exact Nat.le_refl _),List.take_of_length_le (by rw[s.len a.l1];exact Nat.le_refl _)]
theorem St2.row1{w:World}{b:Nat}{s t:SetupV}(a:St2 w b s t):zx w b 37 37=some t.cells.toArray:=by
 rw[qca a.at_ 37 37 (by rw[List.size_toArray,qld a.l1 a.l2];omega)]
 congr 1
 apply Array.ext'
 rw[Array.toList_extract]
 show List.extract (s.cells++t.cells) 37 74=t.cells
 rw[List.extract_eq_take_drop,qp4 (s.len a.l1),List.take_of_length_le (by rw[t.len a.l2];exact Nat.le_refl _)]
theorem qnv{w:World}{b:Nat}(h:w.heap[b]? = some (.cells qn0.toArray 82 (0,0))){s t:SetupV}(f:s.seed.length=32)(g:t.seed.length=32) :
  stOk w b 0 74 (qit s t).toArray=true∧St2 (w.setCells b 0 (qit s t)) b s t:=by
 have i:=qld f g
 refine⟨qfe (C:=qn0.toArray) h (by rw[i];rfl) (fun v l=>(List.mem_append.1 l).elim (s.one v) (t.one v)),⟨?_,f,g⟩⟩
 rw[qa9 h 0 _]
 exact congrArg (fun z=>some (Obj.cells z 82 (0,0))) (qc5 qn0.toArray (qit s t) (by rw[i];rfl))
attribute [local go_sem ↓ high] qn9 qoa qk0 qj9
attribute [local go_sem] zdx q1w qzj zav zaw
set_option maxRecDepth 100000 in
set_option maxHeartbeats 1000000 in
theorem qrk(ours cap:Int)(w:World):Calls Tryz.prog 36 #[.int .u64 ours,.int .u64 cap] w (qa7 (.agg (qit (qga ours cap) (qjv ours cap)).toArray) w):=by
 go_enter Tryz.func36,Tryz.ntmps36
 go_upto_region 1 with fail
 have m:=qi w (.cells qn0.toArray 82)
 have q:qy w (w.alloc (.cells qn0.toArray 82)):=(Upd.refl _ _).alloc _
 generalize w.alloc (.cells qn0.toArray 82)=w1 at m q ⊢
 obtain⟨B,l⟩:∃B,B=w.heap.size:=⟨_,rfl⟩
 rw[←l] at m ⊢
 have F:w.heap.size≤B:=by omega
 clear l
 obtain⟨o,g⟩:=qnv m (s:=qga ours cap) (t:=qjv ours cap) rfl rfl
 have f:qjv ours cap=⟨7,cap,IntKind.u64.wrap (cap-ours),qet 2,⟨#[98]⟩,⟨#[97]⟩⟩:=rfl
 have D:=fun W=>q2d 1 W
 have E:=fun W=>q2d 2 W
 have y:(1:Int)::List.replicate 31 0=qet 1:=rfl
 have z:(2:Int)::List.replicate 31 0=qet 2:=rfl
 rw[y] at D
 rw[z] at E
 have v:=qb g
 have x:=qb (q.then (qak (w:=w1) (b:=B) (qit (qga ours cap) (qjv ours cap))) (fun i H e=>by omega))
 clear g m q y z
 rw[f] at o v x
 have C:=qb f
 clear f
 go_wp2_with fail
 have g:=qa v
 rw[qa C]
 exact bodyPost_ret (results_cell_row rfl _ _ B _ _ _ _ rfl g.at_ Tryz.underlying82 rfl (by rw[List.size_toArray,qld g.l1 g.l2];exact Tryz.infoSt2)) rfl ⟨rfl,qa x⟩
end Go.Proofs.YtjpmomdechibmaaGreatDoor
namespace Go.Proofs.YtjpmomdechibmaaGreatDoor
open Go.RowKit
structure Two(w0 w:World)(gA gB:Nat)(SA SB:Nat→Prop)(a b:Ch):Prop where
 A:ChS w gA SA a
 B:ChS w gB SB b
 geA:∀k,SA k→w0.heap.size≤k
 geB:∀k,SB k→w0.heap.size≤k
 sep:∀k,SA k→¬SB k
 n:qy w0 w
section
variable {w0 w w':World}{gA gB:Nat}{SA SB:Nat→Prop}{a b a' b':Ch}
theorem Two.new(h:Two w0 w gA gB SA SB a b)(u:qy w w'):Two w0 w' gA gB SA SB a b:=⟨h.A.new u,h.B.new u,h.geA,h.geB,h.sep,h.n.trans u⟩
theorem Two.opA(h:Two w0 w gA gB SA SB a b)(l:ChS w' gA (Fr SA w w') a')(u:Upd SA w w'):Two w0 w' gA gB (Fr SA w w') SB a' b:=by
 refine⟨l,h.B.upd u (fun k f e=>h.sep k e f),?_,h.geB,?_,h.n.then u (fun i m e=>by have:=h.geA i e;omega)⟩
 ·rintro k (f | f)
  ·exact h.geA k f
  ·have:=h.n.size
   omega
 ·rintro k (f | f) g
  ·exact h.sep k f g
  ·have:=h.B.lt k g
   omega
theorem Two.swap(h:Two w0 w gA gB SA SB a b):Two w0 w gB gA SB SA b a:=⟨h.B,h.A,h.geB,h.geA,fun k g f=>h.sep k f g,h.n⟩
theorem Two.opB(h:Two w0 w gA gB SA SB a b)(f:ChS w' gB (Fr SB w w') b')(u:Upd SB w w'):Two w0 w' gA gB SA (Fr SB w w') a b':=(h.swap.opA f u).swap
theorem qwd{S:Nat→Prop}(t:Tb w0)(ge:∀k,S k→w0.heap.size≤k):Apart S:=by
 obtain⟨a,b,c,d,e⟩:=t.lt
 exact⟨fun h=>by have:=ge _ h;omega,fun h=>by have:=ge _ h;omega,fun h=>by have:=ge _ h;omega,fun h=>by have:=ge _ h;omega,fun h=>by have:=ge _ h;omega⟩
theorem Two.apA(h:Two w0 w gA gB SA SB a b)(t:Tb w0):Apart SA:=qwd t h.geA
theorem Two.apB(h:Two w0 w gA gB SA SB a b)(t:Tb w0):Apart SB:=qwd t h.geB
structure Off(w:World)(SA SB:Nat→Prop)(K:Nat):Prop where
 lt:K<w.heap.size
 a:¬SA K
 b:¬SB K
theorem Off.new{K:Nat}(h:Off w SA SB K)(u:w.heap.size≤w'.heap.size):Off w' SA SB K:=⟨by have:=h.lt;omega,h.a,h.b⟩
theorem Off.opA{K:Nat}(h:Off w SA SB K)(u:Upd SA w w'):Off w' (Fr SA w w') SB K:=by
 refine⟨Nat.lt_of_lt_of_le h.lt u.size,?_,h.b⟩
 rintro (k | k)
 ·exact h.a k
 ·have:=h.lt
  omega
theorem Off.opB{K:Nat}(h:Off w SA SB K)(u:Upd SB w w'):Off w' SA (Fr SB w w') K:=by
 refine⟨Nat.lt_of_lt_of_le h.lt u.size,h.a,?_⟩
 rintro (k | k)
 ·exact h.b k
 ·have:=h.lt
  omega
theorem Off.fresh{K:Nat}(h:Two w0 w gA gB SA SB a b)(g:w.heap.size≤K)(f:K<w'.heap.size):Off w' SA SB K :=
 ⟨f,fun k=>by have:=h.A.lt K k;omega,fun k=>by have:=h.B.lt K k;omega⟩
theorem Two.put{K:Nat}(h:Two w0 w gA gB SA SB a b)(o:Off w SA SB K)(g:w0.heap.size≤K)(u:Upd (· = K) w w'):Two w0 w' gA gB SA SB a b :=
 ⟨h.A.upd u (fun k f e=>o.a (e▸f)),h.B.upd u (fun k f e=>o.b (e▸f)),h.geA,h.geB,h.sep,h.n.then u (fun i l e=>by omega)⟩
end
theorem qq6(g:Nat)(S:Nat→Prop)(c:Ch)(n:Int)(h:List Int)(ex:Int)(w:World)(m:ChS w g S c)(i:h.length=32)(l:qa6 h)(o:0≤n∧n<18446744073709551616)(q : -9223372036854775808≤ex∧ex≤9223372036854775807)(f:c.news.length<1000000∧c.xs.length<1000000) :
  Calls Tryz.prog 13 #[.pointer (some ⟨g,0,none⟩),.int .u64 n,.agg (zf h).toArray,.int .i64 ex] w fun e w' =>
   e = .returned (.tuple #[.agg (c.offer n (qic h) ex).2.1.cells.toArray,.int .i64 (c.offer n (qic h) ex).2.2])∧ChS w' g (Fr S w w') (c.offer n (qic h) ex).1∧Upd S w w':=by
 have:=q5b g S c n (qic h) ex w m o q (by rw[qfs i];exact l) f
 rw[qfs i] at this
 exact this
theorem qsl(g:Nat)(S:Nat→Prop)(c:Ch)(w:World)(h:ChS w g S c):Calls Tryz.prog 21 #[.pointer (some ⟨g,0,none⟩)] w (qa7 (.agg #[.int .u64 c.loc,.int .u64 c.rem]) w):=by
 obtain⟨i,nv,f,h⟩:=h
 exact q6w g _ w h.toR
theorem qno(g:Nat)(S:Nat→Prop)(c:Ch)(w:World)(h:ChS w g S c):Calls Tryz.prog 17 #[.pointer (some ⟨g,0,none⟩)] w fun e w'=>∃u,e = .returned u∧qy w w'∧((∃a k,u = .slice a 0 k∧c.xs=[])∨∃g' cap,u = .slice (some ⟨g',0,none⟩) c.xs.length cap∧w.heap.size≤g'∧qfj w' g' 0 c.xs):=by
 obtain⟨i,nv,f,h⟩:=h
 exact q8l g _ c.xs (by have:=h.ok.few;omega) w h.toI
theorem qcu.row0{base:Nat}{w:World}{v:Value}{m:MsgV}{i:List MsgV}(h:qcu base w v (m::i))(q:m.hash.length=32):∃g cap,v = .slice (some ⟨g,0,none⟩) (m::i).length cap∧base≤g∧zx w g 0 38=some m.cells.toArray∧g<w.heap.size:=by
 rcases h.2 with ⟨e,t⟩ | ⟨g,cap,f,e,x,o,y,_,z,D⟩
 ·simp at t
 ·refine⟨g,cap,e,x,?_,zw o⟩
  have C:38≤f.size:=by rw[z];simp at y;omega
  rw[qca o 0 38 (by omega)]
  congr 1
  apply Array.ext'
  rw[Array.toList_extract,List.extract_eq_take_drop,List.drop_zero]
  have l:(f.toList.take ((m::i).length*38)).take 38=((m::i).flatMap MsgV.cells).take 38:=by rw[D]
  rw[List.take_take,Nat.min_eq_left (by rw[List.length_cons];omega)] at l
  show f.toList.take 38=m.cells
  rw[l,List.flatMap_cons,List.take_append_of_le_length (by rw[m.len q];exact Nat.le_refl _),List.take_of_length_le (by rw[m.len q];exact Nat.le_refl _)]
theorem qsu(a b:Int)(w:World):(Instr.field 53 (.agg #[.int .u64 a,.int .u64 b]) 0).run Tryz.prog w = .ok (.int .u64 a) w:=by kernel_rfl
theorem qsv(a b:Int)(w:World):(Instr.field 53 (.agg #[.int .u64 a,.int .u64 b]) 1).run Tryz.prog w = .ok (.int .u64 b) w:=by kernel_rfl
theorem qrv(key:ByteArray)(ch n l r:Int)(xs:List Live):z8 true key ch n r l (xs.map qh9)=z8 false key ch n l r xs:=by
 have f:=q0l false xs
 have g:=q54 false l r xs
 unfold z8 qhr qhs
 simp only[Bool.not_false] at f g
 rw[f,g]
 rfl
theorem q1r{c:Ch}{l r n:Int}{xs:List Live}{key:ByteArray}{ch:Int}(f:c.signing.loc=l)(g:c.signing.rem=r)(i:c.signing.xs=xs)(m:c.k.signed=n)(o:c.s.key=key)(q:c.s.ch=ch):qax c=⟨6,0,0,0,z8 false key ch (n+1) l r xs,0,n+1⟩:=by
 unfold qax
 rw[f,g,i,m,o,q]
theorem zdc{m:MsgV}{k i a:Int}{h:List Int}{e n:Int}(ch:Int)(f:m=⟨k,0,i,a,h,e,n⟩):m.on ch=⟨k,ch,i,a,h,e,n⟩:=by subst f;rfl
theorem qtu{c:Ch}(h:qbo c=0):c.sign=((c.signing.say (qax c)).turned,(qax c).on c.s.ch,0):=by unfold Ch.sign;rw[if_pos h]
theorem qlm{c:Ch}{m:MsgV}(f:qaj 3 c.xs=true)(g:m.number=c.k.heard+1)(i:qh1 c m=false):c.hearSign m=(c.signedBy,[c.signedBy.revocation],0):=by
 have h:qb8 c m=0:=by
  unfold qb8
  rw[f,i,if_neg (by decide),if_neg (fun h=>h g),if_neg (by decide)]
 unfold Ch.hearSign
 rw[if_pos h]
theorem qg5{k ch i a e n:Int}{h:List Int}(t:0≤k∧k≤9)(l:0≤ch∧ch<4294967296)(m:0≤i∧i<18446744073709551616)(f:0≤a∧a<18446744073709551616)(o:h.length=32)(g:qa6 h)(q:0≤e∧e≤2147483648)(v:0≤n∧n≤65536):MsgOk ⟨k,ch,i,a,h,e,n⟩ :=
 ⟨⟨by show _≤k;omega,by show k≤_;omega⟩,l,m,f,o,g,⟨by show _≤e;omega,by show e≤_;omega⟩,⟨by show _≤n;omega,by show n≤_;omega⟩⟩
theorem qhc:MsgOk MsgV.zero:=qg5 ⟨by decide,by decide⟩ ⟨by decide,by decide⟩ ⟨by decide,by decide⟩ ⟨by decide,by decide⟩ qo qde ⟨by decide,by decide⟩ ⟨by decide,by decide⟩
def a0:Ch:=Ch.new (qga 10 10)
def b0:Ch:=Ch.new (qjv 10 10)
section
variable (hv:Vector Int 32)
def a1:Ch:=(a0.offer 4 hv 9).1
def m1:MsgV:=(a0.offer 4 hv 9).2.1
theorem zeq:a0.offer 4 hv 9=(a1 hv,⟨3,7,0,4,hv.toList,9,0⟩,0):=by kernel_rfl
theorem zfq:m1 hv=⟨3,7,0,4,hv.toList,9,0⟩:=by kernel_rfl
theorem zfc:(a1 hv).xs=[⟨⟨0,4,hv,9⟩,true,0,false⟩]:=by kernel_rfl
def b1:Ch:=(b0.hearAdd (m1 hv)).1
theorem q72:b0.hearAdd (m1 hv)=(b1 hv,0):=by kernel_rfl
theorem q6u(f:hv.toList.length=32):(b1 hv).xs=[⟨⟨0,4,hv,9⟩,false,0,false⟩]:=by
 have e:qic hv.toList=hv:=by
  unfold qic
  rw[dif_pos f]
  rfl
 have:(b1 hv).xs=[⟨⟨0,4,qic hv.toList,9⟩,false,0,false⟩]:=by kernel_rfl
 rw[this,e]
noncomputable def a2:Ch:=(a1 hv).sign.1
noncomputable def qny:List Int:=z8 false ⟨#[97]⟩ 7 1 6 0 [⟨⟨0,4,hv,9⟩,true,1,false⟩]
theorem q1s:(a1 hv).signing.loc=6∧(a1 hv).signing.rem=0∧(a1 hv).signing.xs=[⟨⟨0,4,hv,9⟩,true,1,false⟩]∧(a1 hv).k.signed=0∧(a1 hv).s.key=⟨#[97]⟩∧(a1 hv).s.ch=7:=⟨by kernel_rfl,by kernel_rfl,by kernel_rfl,by kernel_rfl,by kernel_rfl,by kernel_rfl⟩
theorem zb6:qbo (a1 hv)=0:=by kernel_rfl
theorem zca:(a1 hv).sign=(a2 hv,⟨6,7,0,0,qny hv,0,1⟩,0):=by
 obtain⟨l,m,o,q,t,i⟩:=q1s hv
 have g:=qtu (zb6 hv)
 have f:=q1r l m o q t i
 rw[show (0:Int)+1=1 from rfl] at f
 have v:qax (a1 hv)=⟨6,0,0,0,qny hv,0,1⟩:=by unfold qny;exact f
 have w:=zdc 7 v
 rw[i,w] at g
 have x:a2 hv=((a1 hv).signing.say (qax (a1 hv))).turned:=congrArg Prod.fst g
 rw[g,x]
theorem q99:(qny hv).length=32:=by unfold qny;exact qht _ _ _ _ _ _ _
theorem q11:qa6 (qny hv):=by unfold qny z8 qrq;exact qez _
theorem q6t:(b1 hv).s.peer=⟨#[97]⟩∧(b1 hv).s.ch=7∧(b1 hv).loc=0∧(b1 hv).rem=6∧(b1 hv).k.heard=0:=⟨by kernel_rfl,by kernel_rfl,by kernel_rfl,by kernel_rfl,by kernel_rfl⟩
noncomputable def b2:Ch:=(b1 hv).signedBy
theorem zd8(o:hv.toList.length=32):qh1 (b1 hv) ⟨6,7,0,0,qny hv,0,1⟩=false:=by
 obtain⟨f,g,i,l,q⟩:=q6t hv
 have m:qz 3 (b1 hv).xs=[⟨⟨0,4,hv,9⟩,true,1,false⟩].map qh9:=by rw[q6u hv o];kernel_rfl
 unfold qh1
 simp only
 rw[f,g,i,l,m,qrv]
 unfold qny
 exact bne_self_eq_false _
theorem qxh(f:hv.toList.length=32):(b1 hv).hearSign ⟨6,7,0,0,qny hv,0,1⟩=(b2 hv,[(b2 hv).revocation],0):=by
 have g:qaj 3 (b1 hv).xs=true:=by rw[q6u hv f];kernel_rfl
 exact qlm g (by rw[(q6t hv).2.2.2.2];rfl) (zd8 hv f)
theorem q6v:(b2 hv).k.heard=1:=by kernel_rfl
theorem zes:(b2 hv).revocation=⟨7,7,0,0,((b2 hv).secret 0).1,0,0⟩:=by
 unfold Ch.revocation
 rw[q6v,show (1:Int)-1=0 from rfl]
 congr
theorem qys:((b2 hv).secret 0).1=qce (qet 2) 65535 16:=by
 have:(b2 hv).secret 0=qc7 (qet 2) 65535:=by kernel_rfl
 rw[this]
 unfold qc7
 rw[if_pos (by decide)]
 rfl
theorem qyt(x:Int)(h:0≤x∧x≤255):qa6 (qet x):=by
 intro b f
 unfold qet at f
 rcases List.mem_cons.1 f with rfl | f
 ·exact h
 ·rw[List.eq_of_mem_replicate f];decide
noncomputable def a3:Ch:=((a2 hv).hearRevoke ⟨7,7,0,0,qce (qet 2) 65535 16,0,0⟩).1
theorem q6l:(a2 hv).k.awaits=true∧(a2 hv).k.signed=1∧(a2 hv).shelf=List.replicate 17 .zero∧(a2 hv).s.ch=7:=⟨by kernel_rfl,by kernel_rfl,by kernel_rfl,by kernel_rfl⟩
theorem q9g(R:List Int):qjr (a2 hv) ⟨7,7,0,0,R,0,0⟩=0:=by
 obtain⟨f,g,i,-⟩:=q6l hv
 unfold qjr
 rw[f,g,i,if_neg (by decide),if_neg (by simp),if_neg]
 intro h
 apply h
 kernel_rfl
theorem q0d:(a2 hv).hearRevoke ⟨7,7,0,0,qce (qet 2) 65535 16,0,0⟩=(a3 hv,0):=by
 unfold a3 Ch.hearRevoke
 rw[if_pos (q9g hv _)]
theorem zfd:(a3 hv).loc=6∧(a3 hv).xs=[⟨⟨0,4,hv,9⟩,true,2,false⟩]:=by
 unfold a3 Ch.hearRevoke
 rw[if_pos (q9g hv _)]
 exact⟨by kernel_rfl,by kernel_rfl⟩
theorem zf0:qam ⟨3,7,0,4,hv.toList,9,0⟩=true:=by kernel_rfl
theorem zf1(T:List Int):qam ⟨6,7,0,0,T,0,1⟩=true:=by kernel_rfl
theorem zf2(R:List Int):qam ⟨7,7,0,0,R,0,0⟩=true:=by kernel_rfl
theorem q6m:qpq (a2 hv):=by
 intro p f
 rw[(q6l hv).2.2.1] at f
 exact Ch.new_shelf (qga 10 10) p f
theorem qmq:(a0).s.ch=7∧(b0).s.ch=7∧(a1 hv).s.ch=7∧(a1 hv).s.key=⟨#[97]⟩∧(a1 hv).news.length=1∧(a0).news.length=0∧(a0).xs.length=0∧(b0).xs.length=0:=⟨rfl,rfl,by kernel_rfl,by kernel_rfl,by kernel_rfl,rfl,rfl,rfl⟩
end
end Go.Proofs.YtjpmomdechibmaaGreatDoor
