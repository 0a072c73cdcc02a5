/-
  The statement DuetAllCardSaid: for every input the law remitterlaw14.DuetAll answers true, and its arguments read as they did. No condition beyond the row's own list.
-/
import Derived.Test.YthnohmjbbeahmaaGreatDoorMfa
import Derived.Test.YthnohmjbbeahmaaGreatDoorCards
import Derived.Test.YthnohmjbbeahmaaGreatDoorTie
import Derived.WalkKit
import Derived.ProofKit
import Derived.OpenShut
import Derived.ShutString
import Derived.ChangeOld
import Derived.Deep.DeepHandedRow
import Derived.Lib.LaidTab
set_option linter.unusedVariables false
set_option linter.unusedSimpArgs false
namespace Go.Proofs.YthnohmjbbeahmaaGreatDoor.duetAll
open Go.ChangeShapes Go.WideShapes Go.ChangeAt Go.RowKit
open Go.ChangeMaps (open_string shut_string)
set_option linter.unusedVariables false
theorem own:ownKnob Tryz.prog.godebug=none:=by kernel_rfl
theorem q4h:laidOutB Tryz.prog=true:=by kernel_rfl
set_option maxRecDepth 100000 in
theorem q84(H:Type)(enc:TypeId × Value→H)(W:World)(base:Nat)(args:Array Value)(P gs:List (DataW H))(l:List MemPlace)
  (i:∀(j:Nat) t v,Tryz.f3.params[j]? = some t→args[j]? = some v→Value.okWide Tryz.prog W .any base t v)
  (V:DataW.Whole enc Tryz.prog Tryz.f3.params.toList Rows.duetAllSpec.vars false W args.toList P gs l) (E:laidMetH Tryz.prog Rows.duetAllRow.laid W) :
  Calls Tryz.prog 3 args W fun e z=>∃v,e = .returned v∧Rows.duetAllSpec.post enc Tryz.prog Tryz.f3 false true false false W args v z:=by
 have hL:laidMet Tryz.prog Rows.duetAllRow.laid W:=E
 have g:∀(j:Nat) t v,Tryz.f3.params[j]? = some t→args[j]? = some v→Value.okWide Tryz.prog W .any base t v:=i
 have F:=V
 obtain⟨p,q,w,hV,rfl,a6,a7⟩:=V
 have U:DataW.TrodAll enc Tryz.prog W 0 (fun _=>true) true Tryz.f3.params.toList args.toList P p:=w
 rw[Tryz.params3] at U g
 obtain⟨O,a8,d0,a4,p0,q0,I,rfl,rfl,R,r0⟩:=trodAll_cons U
 obtain⟨Z,a9,d1,a5,p1,q1,rfl,rfl,rfl,T,r1⟩:=trodAll_cons r0
 obtain⟨rfl,rfl,rfl⟩:=trodAll_nil r1
 obtain rfl:args=#[O,Z]:=by cases args;simp_all
 obtain⟨rfl,rfl⟩:=trodVars_none hV
 have X:=R
 have L:∀x∈p0,x.block<W.heap.size:=by obtain⟨m,J⟩:=X;exact DataW.trod_lt m _ _ _ J
 obtain⟨s0,w0⟩:=qzr Tryz.underlying22 Tryz.underlying5 (by kernel_rfl) (g 0 22 O rfl rfl) R
 have Y:=T
 have M:∀x∈p1,x.block<W.heap.size:=by obtain⟨m,J⟩:=Y;exact DataW.trod_lt m _ _ _ J
 obtain⟨C,D,rfl,K,N⟩:=zbk (g 1 23 Z rfl rfl) T
 clear w i
 refine(q04 O s0 C D W w0 K N (zix hL (by simp[Rows.duetAllRow,List.mem_cons]) (by simp[Rows.duetAllRow,List.mem_cons]) (by simp[Rows.duetAllRow,List.mem_cons]) (by simp[Rows.duetAllRow,List.mem_cons]) (by simp[Rows.duetAllRow,List.mem_cons]))).mono fun e z ⟨he,hn⟩=> ?_
 subst he
 have o:Below W.heap.size W z:=hn.below' (Nat.le_refl _) (fun _ h=>h.elim)
 exact⟨_,rfl,_,_,_,[],_,[],F,trodAll_mk1 (shut_bool Tryz.underlying4 _),(trodAll_cons_mk (Below.trod q4h (by kernel_rfl) (of_decide_eq_true (by kernel_rfl)) X o L) (trodAll_cons_mk (Below.trod q4h (by kernel_rfl) (of_decide_eq_true (by kernel_rfl)) Y o M) trodAll_mk0)),rfl,o.frame _,fun h=>by cases h⟩
noncomputable def qou(os:Os):World :=
 {World.holding Tryz.prog os ⟨#[],#[],[]⟩ with heap:=(((((((World.holding Tryz.prog os ⟨#[],#[],[]⟩).heap).modify 4 (fun | .cells _ t g=> .cells #[.int .u8 0,.int .u8 1,.int .u8 28,.int .u8 2,.int .u8 29,.int .u8 14,.int .u8 24,.int .u8 3,.int .u8 30,.int .u8 22,.int .u8 20,.int .u8 15,.int .u8 25,.int .u8 17,.int .u8 4,.int .u8 8,.int .u8 31,.int .u8 27,.int .u8 13,.int .u8 23,.int .u8 21,.int .u8 19,.int .u8 16,.int .u8 7,.int .u8 26,.int .u8 12,.int .u8 18,.int .u8 6,.int .u8 11,.int .u8 5,.int .u8 10,.int .u8 9] t g | o=>o)).modify 5 (fun | .cells _ t g=> .cells #[.int .u8 0,.int .u8 1,.int .u8 56,.int .u8 2,.int .u8 57,.int .u8 49,.int .u8 28,.int .u8 3,.int .u8 61,.int .u8 58,.int .u8 42,.int .u8 50,.int .u8 38,.int .u8 29,.int .u8 17,.int .u8 4,.int .u8 62,.int .u8 47,.int .u8 59,.int .u8 36,.int .u8 45,.int .u8 43,.int .u8 51,.int .u8 22,.int .u8 53,.int .u8 39,.int .u8 33,.int .u8 30,.int .u8 24,.int .u8 18,.int .u8 12,.int .u8 5,.int .u8 63,.int .u8 55,.int .u8 48,.int .u8 27,.int .u8 60,.int .u8 41,.int .u8 37,.int .u8 16,.int .u8 46,.int .u8 35,.int .u8 44,.int .u8 21,.int .u8 52,.int .u8 32,.int .u8 23,.int .u8 11,.int .u8 54,.int .u8 26,.int .u8 40,.int .u8 15,.int .u8 34,.int .u8 20,.int .u8 31,.int .u8 10,.int .u8 25,.int .u8 14,.int .u8 19,.int .u8 9,.int .u8 13,.int .u8 8,.int .u8 7,.int .u8 6] t g | o=>o)).modify 1 (fun | .cells _ t g=> .cells #[.int .u32 1779033703,.int .u32 3144134277,.int .u32 1013904242,.int .u32 2773480762,.int .u32 1359893119,.int .u32 2600822924,.int .u32 528734635,.int .u32 1541459225] t g | o=>o)).modify 3 (fun | .cells _ t g=> .cells #[.int .u32 1116352408,.int .u32 1899447441,.int .u32 3049323471,.int .u32 3921009573,.int .u32 961987163,.int .u32 1508970993,.int .u32 2453635748,.int .u32 2870763221,.int .u32 3624381080,.int .u32 310598401,.int .u32 607225278,.int .u32 1426881987,.int .u32 1925078388,.int .u32 2162078206,.int .u32 2614888103,.int .u32 3248222580,.int .u32 3835390401,.int .u32 4022224774,.int .u32 264347078,.int .u32 604807628,.int .u32 770255983,.int .u32 1249150122,.int .u32 1555081692,.int .u32 1996064986,.int .u32 2554220882,.int .u32 2821834349,.int .u32 2952996808,.int .u32 3210313671,.int .u32 3336571891,.int .u32 3584528711,.int .u32 113926993,.int .u32 338241895,.int .u32 666307205,.int .u32 773529912,.int .u32 1294757372,.int .u32 1396182291,.int .u32 1695183700,.int .u32 1986661051,.int .u32 2177026350,.int .u32 2456956037,.int .u32 2730485921,.int .u32 2820302411,.int .u32 3259730800,.int .u32 3345764771,.int .u32 3516065817,.int .u32 3600352804,.int .u32 4094571909,.int .u32 275423344,.int .u32 430227734,.int .u32 506948616,.int .u32 659060556,.int .u32 883997877,.int .u32 958139571,.int .u32 1322822218,.int .u32 1537002063,.int .u32 1747873779,.int .u32 1955562222,.int .u32 2024104815,.int .u32 2227730452,.int .u32 2361852424,.int .u32 2428436474,.int .u32 2756734187,.int .u32 3204031479,.int .u32 3329325298] t g | o=>o)).modify 0 (fun | .cells _ t g=> .cells #[.int .i64 3,.int .i64 4,.int .i64 1,.int .i64 2,.int .i64 0,.int .i64 1,.int .i64 2,.int .i64 3,.int .i64 4,.int .i64 0,.int .i64 1,.int .i64 2,.int .i64 3,.int .i64 4,.int .i64 0,.int .i64 3,.int .i64 4,.int .i64 1,.int .i64 2,.int .i64 0] t g | o=>o)).modify 2 (fun | .cells _ t g=> .cells #[.int .i64 1,.int .i64 7,.int .i64 3,.int .i64 5] t g | o=>o)}
theorem zan(os:Os):laidMet Tryz.prog Rows.duetAllRow.laid ((qou os).forCall (fun _ _=>0) ⟨#[],#[.slice none 0 0,.agg #[.int .i64 0,.int .i64 0]],[]⟩).memory :=
 laidMet_of_run' 8 (by kernel_rfl) (by kernel_rfl)
theorem zil(os:Os){H:Type}(enc:TypeId × Value→H):∃places,DataW.whole enc Tryz.prog ((qou os).forCall (fun _ _=>0) ⟨#[],#[.slice none 0 0,.agg #[.int .i64 0,.int .i64 0]],[]⟩).memory Tryz.f3.params.toList Rows.duetAllSpec.vars false (#[.slice none 0 0,.agg #[.int .i64 0,.int .i64 0]]:Array Value).toList 8=some ([.nil,.agg [.lit (.int .i64 0),.lit (.int .i64 0)]],[],places) :=
 ⟨[],by kernel_rfl⟩
set_option maxRecDepth 100000 in
theorem zg4(os:Os)(g:os.Started)(H:Type)(enc:TypeId × Value→H)(F:Stop.Interp) :
  ReturnsInHanded {} Tryz.checked os 3 .any ((OpenSpec.ofChange Rows.duetAllSpec).preRow enc Tryz.prog Tryz.f3 Rows.duetAllRow.domain false Rows.duetAllRow.laid) (((OpenSpec.ofChange Rows.duetAllSpec).at F).post enc Tryz.prog Tryz.f3 false true false false):=by
 obtain⟨places,w⟩:=zil os enc
 refine returnsInHanded_of_row (C:=Tryz.checked) (s:=OpenSpec.ofChange Rows.duetAllSpec) own g (by kernel_rfl) Tryz.func3
  (witness_row_at (enc:=enc) (C:=Tryz.checked) false (qou os) #[.slice none 0 0,.agg #[.int .i64 0,.int .i64 0]] rfl (by kernel_rfl) (by kernel_rfl) (by kernel_rfl)
   (OpenSpec.preRow_of_cond 8 w (by kernel_rfl) (fun k v=>by cases v) (by kernel_rfl) (zan os))) ?_
 intro W base args m o i l t _ _ _ q _ _
 exact q84 H enc W base args m o i l t q
theorem said:Rows.DuetAllSaid :=
 OpenClaim.holds_of_cond 3 Tryz.f3 rfl rfl rfl rfl rfl rfl rfl ⟨rfl,rfl,rfl,rfl,rfl⟩ rfl rfl rfl rfl rfl (by kernel_rfl) Tryz.func3 (by kernel_rfl)
  (of_decide_eq_true (by kernel_rfl)) (by unfold Func.isWrapper;first | (rw[if_pos (by decide +kernel)];kernel_rfl) | (rw[if_neg (by decide +kernel)];exact⟨rfl,rfl⟩))
  (fun os g H enc _ F=>by rw[OpenClaim.pre_eq_preRow];exact zg4 os g H enc F)
theorem plain(f:FuncId)(g:Func)(m:Tryz.pinned.checked.prog.funcNamed "remitter/remitterlaw14.DuetAll"=some f)(i:Tryz.pinned.checked.prog.funcs[f]? = some g) :
  false=Tryz.pinned.checked.prog.looks []∧∀(j:Nat) t,g.params[j]? = some t→Tryz.pinned.checked.prog.wantsStandIn t=false:=by
 obtain rfl:f=3:=Option.some.inj ((show Tryz.prog.funcNamed "remitter/remitterlaw14.DuetAll"=some 3 by kernel_rfl).symm.trans m) |>.symm
 obtain rfl:g=Tryz.f3:=(Option.some.inj (Tryz.func3.symm.trans i)).symm
 refine⟨by kernel_rfl,fun j t l=> ?_⟩
 rw[Tryz.params3] at l
 have:=Array.mem_of_getElem? l
 simp only[List.mem_toArray,List.mem_cons,List.not_mem_nil,or_false] at this
 rcases this with rfl | rfl
 ·exact(show Tryz.prog.wantsStandIn 22=false by kernel_rfl)
 ·exact(show Tryz.prog.wantsStandIn 23=false by kernel_rfl)
theorem proved:Rows.DuetAllCardSaid :=
 Claim7.holds_tied_plain_at .later [] _ _ _ _ said (fun _ h=>by cases h) (by kernel_rfl) (fun _ h=>by cases h) duetAll_row_tie rfl ⟨rfl,rfl⟩ (by kernel_rfl) rfl plain (by kernel_rfl)
#print axioms proved
end Go.Proofs.YthnohmjbbeahmaaGreatDoor.duetAll
