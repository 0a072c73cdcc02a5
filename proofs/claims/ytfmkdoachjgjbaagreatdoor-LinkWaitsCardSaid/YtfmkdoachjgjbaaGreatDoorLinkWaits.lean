/-
  The statement LinkWaitsCardSaid: for every input the law remitterlaw18.LinkWaits answers true, and its arguments read as they did. No condition beyond the row's own list.
-/
import Derived.Test.YtfmkdoachjgjbaaGreatDoorLg3
import Derived.Test.YtfmkdoachjgjbaaGreatDoorMdg
import Derived.Test.YtfmkdoachjgjbaaGreatDoorCards
import Derived.Test.YtfmkdoachjgjbaaGreatDoorTie
import Derived.WalkKit
import Derived.ProofKit
import Derived.OpenShut
import Derived.ShutString
import Derived.ChangeOld
import Derived.Deep.DeepHandedRow
import Derived.Lib.LaidTab
set_option maxRecDepth 100000
set_option linter.unusedVariables false
set_option linter.unusedSimpArgs false
namespace Go.Proofs.YtfmkdoachjgjbaaGreatDoor.linkWaits
open Go.ChangeShapes Go.WideShapes Go.ChangeAt Go.RowKit
open Go.ChangeMaps (open_string shut_string)
set_option linter.unusedVariables false
theorem own:ownKnob Tryz.prog.godebug=none:=by kernel_rfl
theorem qzb:laidOutB Tryz.prog=true:=by kernel_rfl
theorem q4s(H:Type)(enc:TypeId × Value→H)(W:World)(base:Nat)(args:Array Value)(O Z:List (DataW H))(z:List MemPlace)
  (i:∀(j:Nat) t v,Tryz.f6.params[j]? = some t→args[j]? = some v→Value.okWide Tryz.prog W .any base t v)
  (T:DataW.Whole enc Tryz.prog Tryz.f6.params.toList Rows.linkWaitsSpec.vars false W args.toList O Z z) (I:laidMetH Tryz.prog Rows.linkWaitsRow.laid W) :
  Calls Tryz.prog 6 args W fun e F=>∃v,e = .returned v∧Rows.linkWaitsSpec.post enc Tryz.prog Tryz.f6 false true false false W args v F:=by
 have hL:laidMet Tryz.prog Rows.linkWaitsRow.laid W:=I
 have f:∀(j:Nat) t v,Tryz.f6.params[j]? = some t→args[j]? = some v→Value.okWide Tryz.prog W .any base t v:=i
 have J:=T
 obtain⟨p,q,E,hV,rfl,a6,a7⟩:=T
 have S:DataW.TrodAll enc Tryz.prog W 0 (fun _=>true) true Tryz.f6.params.toList args.toList O p:=E
 rw[Tryz.params6] at S f
 obtain⟨v0,a8,d0,X,p0,q0,K,rfl,rfl,P,r0⟩:=trodAll_cons S
 obtain⟨V,b3,d1,Y,p1,q1,rfl,rfl,rfl,R,r1⟩:=trodAll_cons r0
 obtain⟨rfl,rfl,rfl⟩:=trodAll_nil r1
 obtain rfl:args=#[v0,V]:=by cases args;simp_all
 obtain⟨rfl,rfl⟩:=trodVars_none hV
 have U:=P
 have M:∀x∈p0,x.block<W.heap.size:=by obtain⟨m,L⟩:=U;exact DataW.trod_lt m _ _ _ L
 obtain⟨a0,rfl,rfl,rfl,w0⟩:=open_int Tryz.underlying71 (f 0 71 v0 rfl rfl) P
 have k1:=R
 have N:∀x∈p1,x.block<W.heap.size:=by obtain⟨m,L⟩:=k1;exact DataW.trod_lt m _ _ _ L
 obtain⟨a1,rfl,rfl,rfl,w1⟩:=open_int Tryz.underlying5 (f 1 5 V rfl rfl) R
 clear E i
 refine(qyn a0 a1 W w0 w1 (zcy hL (by simp[Rows.linkWaitsRow,List.mem_cons]) (by simp[Rows.linkWaitsRow,List.mem_cons]) (by simp[Rows.linkWaitsRow,List.mem_cons]) (by simp[Rows.linkWaitsRow,List.mem_cons]) (by simp[Rows.linkWaitsRow,List.mem_cons]))).mono fun e F ⟨he,hn⟩=> ?_
 subst he
 have C:Below W.heap.size W F:=hn.below' (Nat.le_refl _) (fun _ h=>h.elim)
 exact⟨_,rfl,_,_,_,[],_,[],J,trodAll_mk1 (shut_bool Tryz.underlying4 _),(trodAll_cons_mk (Below.trod qzb (by kernel_rfl) (of_decide_eq_true (by kernel_rfl)) U C M) (trodAll_cons_mk (Below.trod qzb (by kernel_rfl) (of_decide_eq_true (by kernel_rfl)) k1 C N) trodAll_mk0)),rfl,C.frame _,fun h=>by cases h⟩
noncomputable def qls(os:Os):World :=
 {World.holding Tryz.prog os ⟨#[],#[],[]⟩ with heap:=(((((((World.holding Tryz.prog os ⟨#[],#[],[]⟩).heap).modify 5 (fun | .cells _ t f=> .cells #[.int .u8 0,.int .u8 1,.int .u8 28,.int .u8 2,.int .u8 29,.int .u8 14,.int .u8 24,.int .u8 3,.int .u8 30,.int .u8 22,.int .u8 20,.int .u8 15,.int .u8 25,.int .u8 17,.int .u8 4,.int .u8 8,.int .u8 31,.int .u8 27,.int .u8 13,.int .u8 23,.int .u8 21,.int .u8 19,.int .u8 16,.int .u8 7,.int .u8 26,.int .u8 12,.int .u8 18,.int .u8 6,.int .u8 11,.int .u8 5,.int .u8 10,.int .u8 9] t f | o=>o)).modify 6 (fun | .cells _ t f=> .cells #[.int .u8 0,.int .u8 1,.int .u8 56,.int .u8 2,.int .u8 57,.int .u8 49,.int .u8 28,.int .u8 3,.int .u8 61,.int .u8 58,.int .u8 42,.int .u8 50,.int .u8 38,.int .u8 29,.int .u8 17,.int .u8 4,.int .u8 62,.int .u8 47,.int .u8 59,.int .u8 36,.int .u8 45,.int .u8 43,.int .u8 51,.int .u8 22,.int .u8 53,.int .u8 39,.int .u8 33,.int .u8 30,.int .u8 24,.int .u8 18,.int .u8 12,.int .u8 5,.int .u8 63,.int .u8 55,.int .u8 48,.int .u8 27,.int .u8 60,.int .u8 41,.int .u8 37,.int .u8 16,.int .u8 46,.int .u8 35,.int .u8 44,.int .u8 21,.int .u8 52,.int .u8 32,.int .u8 23,.int .u8 11,.int .u8 54,.int .u8 26,.int .u8 40,.int .u8 15,.int .u8 34,.int .u8 20,.int .u8 31,.int .u8 10,.int .u8 25,.int .u8 14,.int .u8 19,.int .u8 9,.int .u8 13,.int .u8 8,.int .u8 7,.int .u8 6] t f | o=>o)).modify 1 (fun | .cells _ t f=> .cells #[.int .u32 1779033703,.int .u32 3144134277,.int .u32 1013904242,.int .u32 2773480762,.int .u32 1359893119,.int .u32 2600822924,.int .u32 528734635,.int .u32 1541459225] t f | o=>o)).modify 4 (fun | .cells _ t f=> .cells #[.int .u32 1116352408,.int .u32 1899447441,.int .u32 3049323471,.int .u32 3921009573,.int .u32 961987163,.int .u32 1508970993,.int .u32 2453635748,.int .u32 2870763221,.int .u32 3624381080,.int .u32 310598401,.int .u32 607225278,.int .u32 1426881987,.int .u32 1925078388,.int .u32 2162078206,.int .u32 2614888103,.int .u32 3248222580,.int .u32 3835390401,.int .u32 4022224774,.int .u32 264347078,.int .u32 604807628,.int .u32 770255983,.int .u32 1249150122,.int .u32 1555081692,.int .u32 1996064986,.int .u32 2554220882,.int .u32 2821834349,.int .u32 2952996808,.int .u32 3210313671,.int .u32 3336571891,.int .u32 3584528711,.int .u32 113926993,.int .u32 338241895,.int .u32 666307205,.int .u32 773529912,.int .u32 1294757372,.int .u32 1396182291,.int .u32 1695183700,.int .u32 1986661051,.int .u32 2177026350,.int .u32 2456956037,.int .u32 2730485921,.int .u32 2820302411,.int .u32 3259730800,.int .u32 3345764771,.int .u32 3516065817,.int .u32 3600352804,.int .u32 4094571909,.int .u32 275423344,.int .u32 430227734,.int .u32 506948616,.int .u32 659060556,.int .u32 883997877,.int .u32 958139571,.int .u32 1322822218,.int .u32 1537002063,.int .u32 1747873779,.int .u32 1955562222,.int .u32 2024104815,.int .u32 2227730452,.int .u32 2361852424,.int .u32 2428436474,.int .u32 2756734187,.int .u32 3204031479,.int .u32 3329325298] t f | o=>o)).modify 0 (fun | .cells _ t f=> .cells #[.int .i64 3,.int .i64 4,.int .i64 1,.int .i64 2,.int .i64 0,.int .i64 1,.int .i64 2,.int .i64 3,.int .i64 4,.int .i64 0,.int .i64 1,.int .i64 2,.int .i64 3,.int .i64 4,.int .i64 0,.int .i64 3,.int .i64 4,.int .i64 1,.int .i64 2,.int .i64 0] t f | o=>o)).modify 2 (fun | .cells _ t f=> .cells #[.int .i64 1,.int .i64 7,.int .i64 3,.int .i64 5] t f | o=>o)}
theorem q6h(os:Os):laidMet Tryz.prog Rows.linkWaitsRow.laid ((qls os).forCall (fun _ _=>0) ⟨#[],#[.int .u16 0,.int .u8 0],[]⟩).memory :=
 laidMet_of_run' 8 (by kernel_rfl) (by kernel_rfl)
theorem zdw(os:Os){H:Type}(enc:TypeId × Value→H):∃places,DataW.whole enc Tryz.prog ((qls os).forCall (fun _ _=>0) ⟨#[],#[.int .u16 0,.int .u8 0],[]⟩).memory Tryz.f6.params.toList Rows.linkWaitsSpec.vars false (#[.int .u16 0,.int .u8 0]:Array Value).toList 8=some ([.lit (.int .u16 0),.lit (.int .u8 0)],[],places) :=
 ⟨[],by kernel_rfl⟩
theorem zcd(os:Os)(f:os.Started)(H:Type)(enc:TypeId × Value→H)(F:Stop.Interp) :
  ReturnsInHanded {} Tryz.checked os 6 .any ((OpenSpec.ofChange Rows.linkWaitsSpec).preRow enc Tryz.prog Tryz.f6 Rows.linkWaitsRow.domain false Rows.linkWaitsRow.laid) (((OpenSpec.ofChange Rows.linkWaitsSpec).at F).post enc Tryz.prog Tryz.f6 false true false false):=by
 obtain⟨places,I⟩:=zdw os enc
 refine returnsInHanded_of_row (C:=Tryz.checked) (s:=OpenSpec.ofChange Rows.linkWaitsSpec) own f (by kernel_rfl) Tryz.func6
  (witness_row_at (enc:=enc) (C:=Tryz.checked) false (qls os) #[.int .u16 0,.int .u8 0] rfl (by kernel_rfl) (by kernel_rfl) (by kernel_rfl)
   (OpenSpec.preRow_of_cond 8 I (by kernel_rfl) (fun k E=>by cases E) (by kernel_rfl) (q6h os))) ?_
 intro W base args p q i m z _ _ _ v _ _
 exact q4s H enc W base args p q i m z v
theorem said:Rows.LinkWaitsSaid :=
 OpenClaim.holds_of_cond 6 Tryz.f6 rfl rfl rfl rfl rfl rfl rfl ⟨rfl,rfl,rfl,rfl,rfl⟩ rfl rfl rfl rfl rfl (by kernel_rfl) Tryz.func6 (by kernel_rfl)
  (of_decide_eq_true (by kernel_rfl)) (by unfold Func.isWrapper;first | (rw[if_pos (by decide +kernel)];kernel_rfl) | (rw[if_neg (by decide +kernel)];exact⟨rfl,rfl⟩))
  (fun os f H enc _ F=>by rw[OpenClaim.pre_eq_preRow];exact zcd os f H enc F)
theorem plain(f:FuncId)(i:Func)(q:Tryz.pinned.checked.prog.funcNamed "remitter/remitterlaw18.LinkWaits"=some f)(m:Tryz.pinned.checked.prog.funcs[f]? = some i) :
  true=Tryz.pinned.checked.prog.looks []∧∀(j:Nat) t,i.params[j]? = some t→Tryz.pinned.checked.prog.wantsStandIn t=false:=by
 obtain rfl:f=6:=Option.some.inj ((show Tryz.prog.funcNamed "remitter/remitterlaw18.LinkWaits"=some 6 by kernel_rfl).symm.trans q) |>.symm
 obtain rfl:i=Tryz.f6:=(Option.some.inj (Tryz.func6.symm.trans m)).symm
 refine⟨by kernel_rfl,fun j t p=> ?_⟩
 rw[Tryz.params6] at p
 have:=Array.mem_of_getElem? p
 simp only[List.mem_toArray,List.mem_cons,List.not_mem_nil,or_false] at this
 rcases this with rfl | rfl
 ·exact(show Tryz.prog.wantsStandIn 71=false by kernel_rfl)
 ·exact(show Tryz.prog.wantsStandIn 5=false by kernel_rfl)
theorem proved:Rows.LinkWaitsCardSaid :=
 Claim7.holds_tied_plain_at .later [] _ _ _ _ said (fun _ h=>by cases h) (by kernel_rfl) (fun _ h=>by cases h) linkWaits_row_tie rfl ⟨rfl,rfl⟩ (by kernel_rfl) rfl plain (by kernel_rfl)
#print axioms proved
end Go.Proofs.YtfmkdoachjgjbaaGreatDoor.linkWaits
