/-
  An end, as New makes it.
-/
import Derived.Test.YtfmkdoachjgjbaaGreatDoorMag
import Derived.Test.YtfmkdoachjgjbaaGreatDoorLk9
import Derived.Test.YtfmkdoachjgjbaaGreatDoorMbe
import Derived.Test.YtfmkdoachjgjbaaGreatDoorMcd
import Derived.Test.YtfmkdoachjgjbaaGreatDoorMcf
set_option linter.unusedVariables false
set_option linter.unusedSimpArgs false
namespace Go.Proofs.YtfmkdoachjgjbaaGreatDoor
open Go.RowKit
def Ch.new(s:SetupV):Ch:=⟨s,.zero,s.ours,s.cap-s.ours,[],List.replicate 17 .zero,[],[]⟩
theorem Ch.new_ok{s:SetupV}(h:s.Ok)(m:s.may):(Ch.new s).Ok:=by
 obtain⟨m1,z,C,_,_⟩:=m;have i:=h.ours;have v:=h.cap;refine⟨h,⟨Int.le_refl _,show (0:Int)≤65535 by decide⟩,⟨Int.le_refl _,show (0:Int)<4294967296 by decide⟩,⟨Int.le_refl _,show (0:Int)<18446744073709551616 by decide⟩,⟨Int.le_refl _,show (0:Int)<18446744073709551616 by decide⟩,i,?_,?_,Nat.zero_le _,⟨rfl,?_⟩,?_,?_,⟨Nat.zero_le _,Nat.zero_le _⟩⟩
 ·show 0≤s.cap-s.ours∧s.cap-s.ours<_;omega
 ·intro x f;cases f
 ·intro p q;rw[List.eq_of_mem_replicate q];rfl
 ·intro x f;cases f
 ·intro x f;cases f
theorem q8h{w:World}{g:Nat}{s:SetupV}(h:ChR w g (.new s))(i:s.Ok)(m:s.may):ChS w g (· = g) (Ch.new s):=by
 refine⟨qco,qco,qco,h.at_,Ch.new_ok i m,World.ownsRow_nil _ _ _ _,World.ownsRow_nil _ _ _ _,World.ownsRow_nil _ _ _ _,rfl,?_,?_,?_,?_,?_⟩
 ·intro k f;simp[qco,Value.ownBlock] at f
 ·intro k f;simp[qco,Value.ownBlock] at f
 ·intro k f;simp[qco,Value.ownBlock] at f
 ·intro k f;simp[qco,Value.ownBlock] at f
 ·intro k f;rw[f];exact zr h.at_
theorem q57{c i a e:Int}(h:List Int)(f:a≤1125899906842624)(m:0≤e∧e≤1073741824):qap ⟨3,c,i,a,h,e,0⟩=true:=by
 unfold qap;show (if e<0∨1073741824<e∨(0:Int)<0∨65535<(0:Int)∨1125899906842624<a then false else decide (qgj _ _=qbh 3))=true;rw[if_neg (by omega)];kernel_rfl
theorem qqp(c:Int)(T:List Int){n:Int}(f:0≤n∧n≤65535):qap ⟨6,c,0,0,T,0,n⟩=true:=by
 unfold qap;show (if (0:Int)<0∨1073741824<(0:Int)∨n<0∨65535<n∨1125899906842624<(0:Int) then false else decide (qgj _ _=qbh 6))=true;rw[if_neg (by omega)];kernel_rfl
theorem qlg{k c i a e n:Int}{h:List Int}(C:0≤k∧k<256)(q:0≤c∧c<4294967296)(z:0≤i∧i<18446744073709551616)(f:0≤a∧a≤1125899906842624)(E:h.length=32)(m:∀b∈h,0≤b∧b≤255)(v:0≤e∧e≤1073741824)(H:0≤n∧n≤65535)(F:qap ⟨k,c,i,a,h,e,n⟩=true):SayOk ⟨k,c,i,a,h,e,n⟩:=by
 refine⟨⟨⟨?_,q,z,⟨f.1,?_⟩,E,m,?_,?_⟩,⟨v.1,?_⟩,⟨H.1,?_⟩⟩,F,C⟩
 ·show -9223372036854775808≤k∧k≤9223372036854775807;omega
 ·show a<18446744073709551616;omega
 ·show -9223372036854775808≤e∧e≤9223372036854775807;omega
 ·show -9223372036854775808≤n∧n≤9223372036854775807;omega
 ·show e<4294967296;omega
 ·show n<65536;omega
structure LkB(l:Lk)(n:Nat):Prop where
 dead:l.dead=false
 waits:l.waits=false
 fused:l.j.fused=false
 off:l.j.off=false
 many:0≤l.j.many∧l.j.many≤n
 len:l.j.bs.size≤2000*n
 out:l.out.size≤2000*n
theorem LkB.ok{l:Lk}{n:Nat}(h:LkB l n)(f:n≤100000000):LkOk l:=⟨h.dead,h.waits,h.fused,h.off,⟨h.many.1,by have:=h.many.2;omega⟩,by have:=h.len;omega,by have:=h.out;omega⟩
theorem LkB.mono{l:Lk}{n m:Nat}(h:LkB l n)(f:n≤m):LkB l m:=⟨h.dead,h.waits,h.fused,h.off,⟨h.many.1,by have:=h.many.2;omega⟩,by have:=h.len;omega,by have:=h.out;omega⟩
theorem LkB.new(c:Ch):LkB (.new c) 0:=⟨rfl,rfl,rfl,rfl,⟨Int.le_refl _,Int.le_refl _⟩,Nat.le_refl _,Nat.le_refl _⟩
theorem LkB.acts{l:Lk}{n:Nat}(h:LkB l n){c':Ch}{rec:ByteArray}{m:MsgV}{er:Int}(E:rec.size≤1024)(i:er=0→SayOk m):LkB (l.acts c' rec m er) (n+1):=by
 unfold Lk.acts;split
 ·rename_i f;have F:=(i f).size;have C:=qjk l.j.many.toNat rec;have q:=h.len;have v:=h.out;have z:=h.many;refine⟨h.dead,h.waits,h.fused,h.off,⟨?_,?_⟩,?_,?_⟩
  ·show 0≤l.j.many+1;omega
  ·show l.j.many+1≤((n+1:Nat):Int);omega
  ·show (l.j.bs++qpr l.j.many.toNat rec).size≤_;rw[ByteArray.size_append];omega
  ·show (l.out++qeb m).size≤_;rw[ByteArray.size_append];omega
 ·have:=h.mono (Nat.le_succ n);exact⟨this.dead,this.waits,this.fused,this.off,this.many,this.len,this.out⟩
theorem LkB.shut{l:Lk}{n:Nat}(h:LkB l n)(f:l.c.shut.2.2=0→SayOk l.c.shut.2.1):LkB l.shut (n+1):=h.acts (by rw[qaq];decide) f
theorem NewL.whole{w:World}{B g:Nat}{s:SetupV}{l:LinkV}(h:NewL w B g s l)(J:s.Ok)(I:s.may):LkS w g (fun i=>i=g∨i=l.sp∨i=l.en∨i=l.lo) (.new (Ch.new s)):=by
 have F:=q8h h.ch J I;have H:=JoS.fresh h.jo;have f:LkR w g ((Lk.new (Ch.new s)).v l.sp l.en l.lo):=by
  have:=h.lk;rw[h.isNew] at this;exact this
 have K:=h.ne;refine⟨l.sp,l.en,l.lo,_,_,⟨f,h.sp,F,H,.inl rfl,.inr (.inl rfl),fun k e=> .inr (.inr (.inl e)),fun k e=> .inr (.inr (.inr e)),?_,?_,?_,?_,?_,?_⟩⟩
 ·show ¬g=l.en;omega
 ·show ¬g=l.lo;omega
 ·show ¬l.sp=l.en;omega
 ·show ¬l.sp=l.lo;omega
 ·intro k e m;have e:k=l.en:=e;have m:k=l.lo:=m;omega
 ·have q:=zr h.lk;have z:=zr h.sp;have C:=zr h.ch.at_;have E:=zr h.jo;rintro k (e | e | e | e)<;>rw[e]
  ·exact q
  ·exact z
  ·exact C
  ·exact E
set_option maxHeartbeats 1000000 in
theorem q2k(g:Nat)(a:Option Addr)(k:Nat)(w:World):Calls Tryz.prog 72 #[.pointer (some ⟨g,0,none⟩),.slice a 0 k] w (qa0 (.int .i64 0) w):=by
 go_enter Tryz.func72,Tryz.ntmps72;go_wp2_with fail
 go_loopw [13] (fun f wr=>f = .int .i64 0∧wr=w) (fun _ _=>0)
 case atStart=>exact⟨rfl,rfl⟩
 case round =>
  obtain⟨rfl,rfl⟩:=hrel;go_wp2_with fail;go_ret;exact⟨rfl,Q.refl _⟩
theorem q1f{en:Nat}{f:Nat→Prop}{c:Ch}{w:World}(h:ChS w en f c)(i:c.xs=[]):Calls Tryz.prog 20 #[.pointer (some ⟨en,0,none⟩)] w fun e w'=>∃a k,e = .returned (.slice a 0 k)∧qq w w':=by
 refine(qqm en f c w h).mono ?_;rintro e w' ⟨u,rfl,n,(⟨a,k,rfl,-⟩ | ⟨m,cap,rfl,-,-⟩)⟩
 ·exact⟨a,k,rfl,n⟩
 ·rw[i];exact⟨_,cap,rfl,n⟩
attribute [local go_sem ↓ high] qz zb zc zf qah
attribute [local go_sem] qaw qax qa1 qw zt qcl
set_option maxRecDepth 100000 in
set_option maxHeartbeats 1000000 in
theorem q0x(I M E g:Nat)(S:Nat→Prop)(l:Lk)(sp en lo:Nat)(i N:Nat→Prop)(m:MsgV)(c':Ch)(H:List MsgV)(er:Int)(v0:Value)(w:World)(h:LkP w g S l sp en lo i N)(O:w.cell? ⟨I,0,none⟩=some (.pointer (some ⟨g,0,none⟩)))(K:MsB w M m)(z:w.heap[E]? = some (.cells #[v0] 124 (0,0)))(P:¬i E)
  (J:∀a,qq w a→Calls Tryz.prog 107 #[.pointer (some ⟨en,0,none⟩),.agg m.cells.toArray] a (qey en i a c' H er)) :
  Calls Tryz.prog 106 #[.pointer (some ⟨I,0,none⟩),.pointer (some ⟨M,0,none⟩),.pointer (some ⟨E,0,none⟩)] w fun e w'=>e = .returned (.int .i64 er)∧∃a a1 v,qq w a∧Upd i a a1∧ChS a1 en (Fr i a a1) c'∧qbx a.heap.size a1 v H∧w'=a1.setCell ⟨E,0,none⟩ v:=by
 have R:w.cell? ⟨g,1,none⟩=some (.pointer (some ⟨en,0,none⟩)):=qg h.at_ 1
 have U:=K.row
 have q:=J _ ((Upd.refl (fun _=>False) w).drew)
 clear h J K
 go_enter Tryz.func106,Tryz.ntmps106
 go_wp2_with (with_reducible first|(first|refine' tw1 (qh ?_) ?_|refine' tw2 (qh ?_) ?_);rotate_left|refine' tw3 (qh ?_)|rfl|apply tn|refine' tw4 ?_)
 refine q.mono ?_
 rintro e w1 ⟨v,rfl,C,F,u⟩
 obtain⟨V,W,rfl⟩:∃a c,v = .slice a H.length c:=qaa C
 have f:=u.old (((Upd.refl (fun _=>False) w).drew).old z (fun h=>h)) P
 have f1:=qu f 0
 have T:=qg f 0
 have L:=qb (And.intro C (And.intro F u))
 clear C F u f q z
 go_wp2_with (with_reducible first|(first|refine' tw1 (qh ?_) ?_|refine' tw2 (qh ?_) ?_);rotate_left|refine' tw3 (qh ?_)|rfl|apply tn|refine' tw4 ?_)
 go_ret
 obtain⟨C,F,u⟩:=qa L
 exact⟨rfl,_,_,_,(Upd.refl (fun _=>False) w).drew,u,F,C,rfl⟩
set_option maxHeartbeats 1000000 in
theorem qwr(f i g:Nat)(a:Option Addr)(k:Nat)(w:World)(m:w.cell? ⟨f,0,none⟩=some (.pointer (some ⟨g,0,none⟩)))(v:w.cell? ⟨i,0,none⟩=some (.slice a 0 k)) :
  Calls Tryz.prog 108 #[.pointer (some ⟨f,0,none⟩),.pointer (some ⟨i,0,none⟩)] w (qa0 (.int .i64 0) w):=by
 go_enter Tryz.func108,Tryz.ntmps108
 go_wp2_with fail
 refine(q2k g a k w).mono ?_
 rintro e w1 ⟨rfl,q⟩
 go_wp2_with fail
 go_ret
 exact⟨rfl,q⟩
end Go.Proofs.YtfmkdoachjgjbaaGreatDoor
namespace Go.Proofs.YtfmkdoachjgjbaaGreatDoor
open Go.RowKit
attribute [local go_sem ↓ high] qbc
attribute [local go_sem] qdi qw
def LvO(w:World)(v:Value)(xs:List Live):Prop:=(∃a k,v = .slice a 0 k∧xs=[])∨∃g cap,v = .slice (some ⟨g,0,none⟩) xs.length cap∧qds w g 0 xs
theorem LvO.new{w w':World}{v:Value}{xs:List Live}(h:LvO w v xs)(n:qq w w'):LvO w' v xs:=h.imp id (fun⟨g,cap,e,f⟩=>⟨g,cap,e,f.upd n (fun h=>h)⟩)
theorem LvO.shape{w:World}{v:Value}{xs:List Live}(h:LvO w v xs):∃a cap,v = .slice a xs.length cap∧(xs=[]∨∃g,a=some ⟨g,0,none⟩∧qds w g 0 xs):=by
 rcases h with ⟨a,k,rfl,rfl⟩ | ⟨g,cap,rfl,f⟩
 ·exact⟨a,k,rfl,.inl rfl⟩
 ·exact⟨_,cap,rfl,.inr ⟨g,rfl,f⟩⟩
def qcy(own:Bool)(id:Int)(x:Live):Bool:=x.own==own&&x.h.id==id
set_option maxHeartbeats 1000000 in
theorem q0f(own:Bool)(id:Int)(x:Live)(z C:Nat)(w:World)(q:w.cell? ⟨z,0,none⟩=some (.bool own))(v:w.cell? ⟨C,0,none⟩=some (.int .u64 id)) :
  Calls Tryz.prog 183 #[.agg (qm x).toArray,.pointer (some ⟨z,0,none⟩),.pointer (some ⟨C,0,none⟩)] w (qa5 (.bool (qcy own id x)) w):=by
 go_enter Tryz.func183,Tryz.ntmps183
 go_upto_region 1 with fail
 have i:(w.alloc (.cells (qm x).toArray 69)).heap[w.heap.size]? = some (.cells (qm x).toArray 69 (0,0)):=qj _ _
 have f:qq w (w.alloc (.cells (qm x).toArray 69)):=(Upd.refl _ _).alloc _
 generalize w.alloc (.cells (qm x).toArray 69)=w1 at i f ⊢
 replace q:=f.cell q (fun h=>h)
 replace v:=f.cell v (fun h=>h)
 have E:w1.cell? ⟨w.heap.size,35,none⟩=some (.bool x.own):=by rw[qg i,List.getElem?_toArray];exact qfe x
 have F:w1.cell? ⟨w.heap.size,0,none⟩=some (.int .u64 x.h.id):=by rw[qg i,List.getElem?_toArray];exact qsf x
 clear i
 cases m:x.own==own with
 | false =>
  go_wp2_with (with_reducible first|(first|refine' tw1 (qh ?_) ?_|refine' tw2 (qh ?_) ?_);rotate_left|refine' tw3 (qh ?_)|rfl|apply tn|refine' tw4 ?_);go_ret;exact⟨by unfold qcy;rw[m];rfl,f⟩
 | true =>
  go_wp2_with (with_reducible first|(first|refine' tw1 (qh ?_) ?_|refine' tw2 (qh ?_) ?_);rotate_left|refine' tw3 (qh ?_)|rfl|apply tn|refine' tw4 ?_);go_ret;exact⟨by unfold qcy;rw[m];rfl,f⟩
def qgr(own:Bool)(id:Int)(xs:List Live):Int:=match xs.findIdx? (qcy own id) with | some i=>i | none=> -1
set_option maxRecDepth 100000 in
set_option maxHeartbeats 1000000 in
theorem qwy(own:Bool)(id:Int)(N O:Nat)(v:Value)(xs:List Live)(w:World)(hv:LvO w v xs)(hl:xs.length≤1000000)(Y:w.cell? ⟨N,0,none⟩=some (.bool own))(Z:w.cell? ⟨O,0,none⟩=some (.int .u64 id)) :
  Calls Tryz.prog 128 #[v,.func (.func 183) #[] #[.pointer (some ⟨N,0,none⟩),.pointer (some ⟨O,0,none⟩)]] w (qa5 (.int .i64 (qgr own id xs)) w):=by
 obtain⟨a,cap,rfl,f⟩:=hv.shape
 have m:∀(i:Nat) (x:Live),xs[i]? = some x→∃E,a=some ⟨E,0,none⟩∧qd3 w E 0 xs:=by
  intro i x U;have q:=(List.getElem?_eq_some_iff.1 U).1;rcases f with X | ⟨E,e,I⟩
  ·rw[X] at q;simp at q
  ·exact⟨E,e,I.toL⟩
 clear f
 have a7:(xs.length:Int)≤1000000:=by omega
 go_enter Tryz.func128,Tryz.ntmps128
 go_wp2_with fail
 go_loopw [5,8] (fun _ M wr=>∃i:Nat,M = .int .i64 (i:Int)∧i≤xs.length∧(∀j x,j<i→xs[j]? = some x→qcy own id x=false)∧qq w wr) (fun _ M _=>xs.length-(intOf M).toNat)
 case atStart=>exact⟨0,rfl,Nat.zero_le _,fun j x h=>by omega,Upd.refl _ _⟩
 case round =>
  obtain⟨i,rfl,U,S,C⟩:=hrel;obtain⟨P,rfl⟩:∃P:World,P=wr:=⟨_,rfl⟩;have J:=qb S;clear S;by_cases q:i<xs.length
  ·obtain⟨x,z⟩:∃x,xs[i]? = some x:=⟨_,List.getElem?_eq_getElem q⟩;obtain⟨E,rfl,I⟩:=m i x z;have f:=(I.upd C (fun h=>h)).row z;rw[Nat.zero_add] at f;have a6:(i:Int)<(xs.length:Int):=by omega
   have T:=q0f own id x N O P (C.cell Y (fun h=>h)) (C.cell Z (fun h=>h));have R:=qb z;clear I m z;go_wp2_with fail;refine T.mono ?_;rintro e w2 ⟨rfl,V⟩;have W:=C.trans V;clear T f C V;cases F:qcy own id x with
   | true =>
    go_wp2_with fail;go_ret;have K:xs.findIdx? (qcy own id)=some i:=by
     rw[List.findIdx?_eq_some_iff_getElem];refine⟨q,?_,fun j H=> ?_⟩
     ·have:=qa R;rw[List.getElem?_eq_getElem q] at this;rw[Option.some.inj this,F]
     ·have:=qa J j _ H (List.getElem?_eq_getElem (by omega));rw[this];decide
    exact⟨by unfold qgr;rw[K];rfl,W⟩
   | false =>
    go_wp2_with fail;go_roundw
    case rel =>
     refine⟨i+1,by go_num,by omega,fun j y H L=> ?_,W⟩;by_cases e:j<i
     ·exact qa J j y e L
     ·obtain rfl:j=i:=by omega
      rw[qa R] at L;rw[←Option.some.inj L];exact F
    case measure=>simp[intOf];omega
  ·obtain rfl:i=xs.length:=by omega
   clear m;go_wp2_with fail;go_ret;have K:xs.findIdx? (qcy own id)=none:=by
    rw[List.findIdx?_eq_none_iff];intro x hx;obtain⟨j,H,rfl⟩:=List.mem_iff_getElem.1 hx;exact qa J j _ H (List.getElem?_eq_getElem H)
   exact⟨by unfold qgr;rw[K];rfl,C⟩
set_option maxRecDepth 100000 in
set_option maxHeartbeats 1000000 in
theorem qoa(own:Bool)(id:Int)(v:Value)(xs:List Live)(w:World)(E:LvO w v xs)(C:xs.length≤1000000) :
  Calls Tryz.prog 145 #[v,.bool own,.int .u64 id] w (qa5 (.int .i64 (qgr own id xs)) w):=by
 have J:∀(z:Fn) (first cap:Array Value) (w:World),(Instr.makeFunc z first cap).run Tryz.prog w = .ok (.func z first cap) w:=fun _ _ _ _=>rfl
 go_enter Tryz.func145,Tryz.ntmps145
 go_upto_region 1 with fail
 have m:qq w ((w.alloc (.cells #[.bool own] 4)).alloc (.cells #[.int .u64 id] 22)):=((Upd.refl _ _).alloc _).alloc _
 have f:((w.alloc (.cells #[.bool own] 4)).alloc (.cells #[.int .u64 id] 22)).heap[w.heap.size]? = some (.cells #[.bool own] 4 (0,0)):=qs (qj _ _) _
 have i:((w.alloc (.cells #[.bool own] 4)).alloc (.cells #[.int .u64 id] 22)).heap[w.heap.size+1]? = some (.cells #[.int .u64 id] 22 (0,0)):=by
  have:=qj (w.alloc (.cells #[.bool own] 4)) (.cells #[.int .u64 id] 22);rwa [World.size_alloc] at this
 generalize (w.alloc (.cells #[.bool own] 4)).alloc (.cells #[.int .u64 id] 22)=K at m f i ⊢
 have F:=qwy own id w.heap.size (w.heap.size+1) v xs K (E.new m) C (qg f 0) (qg i 0)
 have q:=qb m
 clear f i m E C
 go_wp2_with fail
 refine F.mono ?_
 rintro e L ⟨rfl,H⟩
 have I:=qb ((qa q).trans H)
 clear F H q
 go_wp2_with fail
 go_ret
 exact⟨rfl,qa I⟩
end Go.Proofs.YtfmkdoachjgjbaaGreatDoor
namespace Go.Proofs.YtfmkdoachjgjbaaGreatDoor
open Go.RowKit
attribute [local go_sem ↓ high] qbc qbo qce
attribute [local go_sem] qdi qdx qfb qw
def qgq(f:List Live)(x:Live):Bool:= !x.own&&(x.state==4&&(match f.findIdx? (qcy false x.h.id) with | some i=>(f.getD i x).state != 4 | none=>true))
def qin(f:List Live)(x:Live):Bool:=x.own&&(!x.paid&&(f.findIdx? (qcy true x.h.id)).isNone)
end Go.Proofs.YtfmkdoachjgjbaaGreatDoor
namespace Go.Proofs.YtfmkdoachjgjbaaGreatDoor
open Go.RowKit
attribute [local go_sem ↓ high] qz zb zc
attribute [local go_sem] qaw qax qa1 qw
set_option maxRecDepth 100000 in
set_option maxHeartbeats 2000000 in
theorem q61(g B cap:Nat)(S:Nat→Prop)(l:Lk)(sp en lo:Nat)(SC SJ:Nat→Prop)(f:List MsgV)(w:World)(h:LkP w g S l sp en lo SC SJ)(V:∀m∈f,SayOk m)(hn:f.length≤1000)(hz:l.out.size≤1099511627776)
  (hr:∀i m,f[i]? = some m→zg w B (i*38) 38=some m.cells.toArray) (hB:B≠g) :
  Calls Tryz.prog 72 #[.pointer (some ⟨g,0,none⟩),.slice (some ⟨B,0,none⟩) f.length cap] w fun e w'=>e = .returned (.int .i64 0)∧LkP w' g S {l with out:=qam f l.out} sp en lo SC SJ∧Upd (· = g) w w':=by
 have b7:(f.length:Int)≤1000:=by omega
 have b5:=h.lt g h.inG
 have H:=qb h
 have HR:=qb hr
 have HM:=qb V
 clear h hr V
 go_enter Tryz.func72,Tryz.ntmps72
 go_wp2_with fail
 go_loopw [13] (fun iv wr=>∃i:Nat,iv = .int .i64 (i:Int)∧i≤f.length∧Hid (LkP wr g S {l with out:=qam (f.take i) l.out} sp en lo SC SJ)∧Upd (· = g) w wr) (fun iv _=>f.length-(intOf iv).toNat)
 case atStart=>exact⟨0,rfl,Nat.zero_le _,H,Upd.refl _ _⟩
 case round =>
  obtain⟨i,rfl,hi,hC,u⟩:=hrel;obtain⟨F,rfl⟩:∃F:World,F=wr:=⟨_,rfl⟩;by_cases L:i<f.length
  ·have b6:(i:Int)<(f.length:Int):=by omega
   have T:f[i]? = some f[i]:=List.getElem?_eq_getElem L;generalize f[i]=m at T;have q:=qa HM m (List.mem_of_getElem? T);have rB:=qav (qa HR i m T) u hB;have a7:=q.put.ok.len;have U:=qb u;have HX:=qb T;have X:=qb q;clear u T q;obtain⟨P,z,W⟩:=qix F m a7;go_upto_region 4 with fail;change Code.wp _ _ _ _ (qjw F m);generalize qjw F m=w1 at z W ⊢;generalize F.heap.size=K at z P ⊢;have rK:=z.row;obtain⟨t,a8,b3,R,E⟩:=qmi m (qa X) w1;have v:=fun w'=>quw t w' a8 b3
   have hP:=(qa hC).new W;have U1:=qb ((qa U).trans (W.mono (fun _ _ h=>h.elim)));have M:=qg8 ⟨#[]⟩ (f.take i) (fun m V=>qa HM m (List.mem_of_mem_take V)) l.out;have N:(qam (f.take i) l.out).size≤1099512653776:=by
    rw[List.length_take] at M;omega
   have a6:(qcw t).size≤1026:=by rw[qdy];omega
   generalize hO:qam (f.take i) l.out=O at hP N;have HO:=qb hO;have Y:=qb hP;have I:=qb R;generalize qcw t=ft at v a6 I;clear P z W hC U hP M hO R;go_wp2_with fail;refine E.mono ?_;rintro e w2 ⟨rfl,n2⟩;have Y:=qb ((qa Y).new n2);have U2:=qb ((qa U1).trans (n2.mono (fun _ _ h=>h.elim)));clear E rK n2;go_wp2_with fail;refine(v w2).mono ?_;rintro e w3 ⟨rfl,n3⟩;have C:=(qa Y).new n3;have U3:=qb ((qa U2).trans (n3.mono (fun _ _ h=>h.elim)));have c3:w3.cell? ⟨g,3,none⟩=some (.string O):=qg C.at_ 3;have f3:=qu C.at_ 3;have J:=C.put_out (O++ft);have u4:Upd (· = g) w3 (w3.setCell ⟨g,3,none⟩ (.string (O++ft))):=(Upd.refl _ _).set1 _ _;have Z:=qb J;have U4:=qb ((qa U3).trans u4);have b4:O.size+ft.size≤9223372036854775807:=by omega
   clear v n3 C J u4;go_wp2_with fail;go_roundw
   case rel =>
    refine⟨i+1,by go_num,L,?_,qa U4⟩;have e1:=qqy (qa HX) l.out;rw[qa HO,qa I] at e1;rw[e1];exact Z
   case measure=>simp[intOf];omega
  ·obtain rfl:i=f.length:=by omega
   have U:=qb u;clear u;go_wp2_with fail;go_ret;refine⟨rfl,?_,qa U⟩;have:=qa hC;rw[List.take_length] at this;exact this
end Go.Proofs.YtfmkdoachjgjbaaGreatDoor
namespace Go.Proofs.YtfmkdoachjgjbaaGreatDoor
open Go.RowKit
attribute [local go_sem ↓ high] qz zb zc zf qah
attribute [local go_sem] qaw qax qa1 qw zt qcl
end Go.Proofs.YtfmkdoachjgjbaaGreatDoor
namespace Go.Proofs.YtfmkdoachjgjbaaGreatDoor
open Go.RowKit
set_option maxRecDepth 100000 in
set_option maxHeartbeats 2000000 in
theorem qxk(F P I g:Nat)(S:Nat→Prop)(l:Lk)(sp en lo:Nat)(SC L:Nat→Prop)(xs:List ByteArray)(w:World)(h:LkP w g S l sp en lo SC L)(hd:l.dead=false)(hf:l.j.fused=false)(ho:l.j.off=false)
  (hm:0≤l.j.many∧l.j.many<1099511627776) (C:l.j.bs.size≤1099511627776) (hT:Tabs w) (hn:xs.length≤1000) (V:(zx xs).size≤1024)
  (c0:w.cell? ⟨F,0,none⟩=some (.pointer (some ⟨g,0,none⟩))) (c1:w.cell? ⟨P,0,none⟩=some (.slice (some ⟨I,0,none⟩) xs.length xs.length)) (hx:∀j x,xs[j]? = some x→w.cell? ⟨I,j,none⟩=some (.string x)) (U:I<w.heap.size) (hP:¬S F) :
  Calls Tryz.prog 112 #[.pointer (some ⟨F,0,none⟩),.pointer (some ⟨P,0,none⟩)] w fun e w'=>e = .returned (.int .i64 0)∧(∃a7,LkP w' g (Fr S w w') {l with j:=l.j.app (zx xs)} sp en lo SC a7)∧Upd (fun k=>L k∨k=g) w w':=by
 have c2:w.cell? ⟨g,2,none⟩=some (.pointer (some ⟨lo,0,none⟩)):=qg h.at_ 2
 have i:=fun w' (v:qq w w')=>qt8 I xs w' (fun j x e=>v.cell (hx j x e) (fun h=>h)) (Nat.lt_of_lt_of_le U v.size) hn (by omega)
 have z:=fun b w' (v:qq w w') hb hS=>qmn lo b L l.j (zx xs) w' (h.jou.new v) hf ho V hm C (hT.new v) hb hS
 have M:(w.cell? ⟨F,0,none⟩=some (.pointer (some ⟨g,0,none⟩)))∧(w.cell? ⟨g,2,none⟩=some (.pointer (some ⟨lo,0,none⟩)))∧w.cell? ⟨P,0,none⟩=some (.slice (some ⟨I,0,none⟩) xs.length xs.length):=⟨c0,c2,c1⟩
 have HC:=qb M
 have H:=qb h
 have m:∀w',qq w w'→(w'.cell? ⟨F,0,none⟩=some (.pointer (some ⟨g,0,none⟩)))∧(w'.cell? ⟨g,2,none⟩=some (.pointer (some ⟨lo,0,none⟩)))∧w'.cell? ⟨P,0,none⟩=some (.slice (some ⟨I,0,none⟩) xs.length xs.length):=fun w' v=>⟨v.cell M.1 (fun h=>h),v.cell M.2.1 (fun h=>h),v.cell M.2.2 (fun h=>h)⟩
 have Z:=qb h.jou.lt
 generalize hJ:zx xs=J at *
 clear h c0 c1 c2 hx hn V U hm C hT hJ
 go_enter Tryz.func112,Tryz.ntmps112
 go_upto_region 1 with fail
 refine qa2 (fun w'=>(w'.cell? ⟨F,0,none⟩=some (.pointer (some ⟨g,0,none⟩)))∧(w'.cell? ⟨g,2,none⟩=some (.pointer (some ⟨lo,0,none⟩)))∧w'.cell? ⟨P,0,none⟩=some (.slice (some ⟨I,0,none⟩) xs.length xs.length)) [0,3,4] (.of [0,1,2,3,4,5,6,7,8]) (by kernel_rfl) (by kernel_rfl) M ?_
 simp only[Plan.of]
 have k0:=m _ ((Upd.refl (fun _=>False) w).drew)
 clear M
 go_wp2_with (with_reducible first|(first|refine' zy (qh ?_) ?_|refine' zz (qh ?_) ?_|refine' qw3 (qh ?_) ?_);rotate_left|refine' qw4 (qh ?_)|refine' qw5 (qh ?_)|rfl|apply qn)
 refine(i _ ((Upd.refl (fun _=>False) w).drew)).mono ?_
 rintro e w1 ⟨rfl,N⟩
 have N:=N.ofDrew
 have k1:=m _ N
 clear i k0
 go_wp2_with (first | (with_reducible first|(first|refine' zy (qh ?_) ?_|refine' zz (qh ?_) ?_|refine' qw3 (qh ?_) ?_);rotate_left|refine' qw4 (qh ?_)|refine' qw5 (qh ?_)|rfl|apply qn) | refine⟨k1,?_⟩)
 have E:qq w (w1.alloc (.cells #[.string J] 9)):=N.alloc _
 have W:qq w1 (w1.alloc (.cells #[.string J] 9)):=(Upd.refl _ _).alloc _
 have b2:=qg (qj w1 (.cells #[.string J] 9)) 0
 have k2:=m _ E
 have b3:=N.size
 generalize w1.alloc (.cells #[.string J] 9)=w2 at E W b2 k2 ⊢
 refine⟨k2,?_⟩
 generalize hB:w1.heap.size=B at b2 ⊢
 have f:=z B w2 E b2 (fun e=>by have:=(qa Z) B e;omega)
 have N2:=qb E
 clear z N E W k1 b2 hB b3
 go_wp2_with (first | (with_reducible first|(first|refine' zy (qh ?_) ?_|refine' zz (qh ?_) ?_|refine' qw3 (qh ?_) ?_);rotate_left|refine' qw4 (qh ?_)|refine' qw5 (qh ?_)|rfl|apply qn) | refine⟨k2,?_⟩)
 refine f.mono ?_
 rintro e Y ⟨rfl,R,K⟩
 have O:=(qa N2)
 have q:=((qa H).new O).jour K R
 have d0:Y.cell? ⟨F,0,none⟩=some (.pointer (some ⟨g,0,none⟩)):=K.cell k2.1 (fun e=>hP ((qa H).inJ _ e))
 have d6:=qu q.at_ 6
 have b4:Y.cell? ⟨g,6,none⟩=some (.bool false):=hd▸qg q.at_ 6
 have T:=q.put_dead false
 have X:Upd (· = g) Y (Y.setCell ⟨g,6,none⟩ (.bool false)):=(Upd.refl _ _).set1 _ _
 have a6:=qb T
 have U3:=qb K
 have U4:=qb X
 have K2:=qb k2
 clear f R O q T K X k2 m
 go_wp2_with (first | (with_reducible first|(first|refine' zy (qh ?_) ?_|refine' zz (qh ?_) ?_|refine' qw3 (qh ?_) ?_);rotate_left|refine' qw4 (qh ?_)|refine' qw5 (qh ?_)|rfl|apply qn) | (with_reducible first|(first|refine' tw1 (qh ?_) ?_|refine' tw2 (qh ?_) ?_);rotate_left|refine' tw3 (qh ?_)|rfl|apply tn|refine' tw4 ?_) | refine⟨trivial,?_⟩)
 go_ret
 have E:=qa N2
 have K:=qa U3
 have X:=qa U4
 have z2:=E.size
 have z3:=K.size
 have z4:=X.size
 have h:=qa H
 have a8:=h.lt
 have e:({l with j:=l.j.app J} : Lk)=⟨l.c,l.j.app J,l.rest,l.out,l.ev,l.ticks,false,l.broken,l.waits⟩:=by rw[←hd]
 refine⟨rfl,⟨Fr L w2 Y,?_⟩,?_⟩
 ·rw[e];refine(qa a6).wider ?_ ?_
  ·rintro k (m | m)
   ·exact .inl m
   ·exact .inr ⟨by omega,by omega⟩
  ·rintro k (m | m)
   ·have:=a8 k m;omega
   ·exact m.2
 ·exact((E.mono (fun _ _ h=>h.elim)).trans (K.mono (fun k _ e=>(Or.inl e:L k∨k=g)))).trans (X.mono (fun k _ e=>(Or.inr e:L k∨k=g)))
def q5h(i:Nat):Nat:=if i=0 then 106 else if i=1 then 112 else if i=2 then 108 else 109
def qog(f M m q v z:Nat)(i:Nat):Array Value :=
 if i=0 then #[.pointer (some ⟨f,0,none⟩),.pointer (some ⟨M,0,none⟩),.pointer (some ⟨m,0,none⟩)] else if i=1 then #[.pointer (some ⟨v,0,none⟩),.pointer (some ⟨z,0,none⟩)] else if i=2 then #[.pointer (some ⟨f,0,none⟩),.pointer (some ⟨m,0,none⟩)] else #[.pointer (some ⟨f,0,none⟩),.pointer (some ⟨M,0,none⟩),.pointer (some ⟨q,0,none⟩)]
attribute [local go_sem ↓ high] qz zb zc zf qah
attribute [local go_sem] qaw qax qa1 qw zt qcl
end Go.Proofs.YtfmkdoachjgjbaaGreatDoor
namespace Go.Proofs.YtfmkdoachjgjbaaGreatDoor
open Go.RowKit
attribute [local go_sem ↓ high] qz zb zc zf qah
attribute [local go_sem] qaw qax qa1 qw zt qcl
theorem qxp{w:World}{base f:Nat}{e:TypeId}{size:Nat}{v:Value}{n:Nat}{xs:List Value}(h:w.ownsRow base e size v n xs)(z:f≤base):w.ownsRow f e size v n xs:=by
 refine⟨h.1,?_⟩;rcases h.2 with h | ⟨g,cap,i,m,q,r⟩
 ·exact .inl h
 ·exact .inr ⟨g,cap,i,m,Nat.le_trans z q,r⟩
structure GSt(W:World)(g:Nat)(S:Nat→Prop)(sp en lo SD:Nat)(SJ:Nat→Prop)(ms:List MsgV)(L:Lk)(a:World):Prop where
 upd:Upd (fun k=>S k∨k=SD) W a
 said:∃v,a.cell? ⟨SD,0,none⟩=some v∧qbx W.heap.size a v ms
 lk:∃SC,LkP a g (Fr S W a) L sp en lo SC SJ
structure GS2(W:World)(g:Nat)(S:Nat→Prop)(sp en lo SD:Nat)(ms:List MsgV)(L:Lk)(a:World):Prop where
 upd:Upd (fun k=>S k∨k=SD) W a
 said:∃v,a.cell? ⟨SD,0,none⟩=some v∧qbx W.heap.size a v ms
 lk:∃SC SJ,LkP a g (Fr S W a) L sp en lo SC SJ
structure GS3(W:World)(g:Nat)(S:Nat→Prop)(sp en lo SD:Nat)(L:Lk)(a:World):Prop where
 upd:Upd (fun k=>S k∨k=SD) W a
 lk:∃SC SJ,LkP a g (Fr S W a) L sp en lo SC SJ
end Go.Proofs.YtfmkdoachjgjbaaGreatDoor
namespace Go.Proofs.YtfmkdoachjgjbaaGreatDoor
open Go.RowKit
def LvB(w:World)(base:Nat)(v:Value)(xs:List Live):Prop:=(∃a k,v = .slice a 0 k∧xs=[])∨∃g cap,v = .slice (some ⟨g,0,none⟩) xs.length cap∧base≤g∧qds w g 0 xs
theorem LvB.toO{w:World}{base:Nat}{v:Value}{xs:List Live}(h:LvB w base v xs):LvO w v xs:=h.imp id (fun⟨g,cap,e,_,f⟩=>⟨g,cap,e,f⟩)
theorem LvB.upd{T:Nat→Prop}{w w':World}{base:Nat}{v:Value}{xs:List Live}(h:LvB w base v xs)(u:Upd T w w')(m:∀k,base≤k→k<w.heap.size→¬T k):LvB w' base v xs :=
 h.imp id (fun⟨g,cap,e,f,i⟩=>⟨g,cap,e,f,i.upd u (m g f i.toL.lt)⟩)
theorem LvB.upd2{T:Nat→Prop}{w0 w w':World}{base:Nat}{v:Value}{xs:List Live}(h:LvB w base v xs)(_:w0.heap.size≤w.heap.size)(i:LvB w0 base v xs)(u:Upd T w w')(E:∀k,base≤k→k<w0.heap.size→¬T k):LvB w' base v xs:=by
 rcases h with h | ⟨g,cap,e,z,I⟩
 ·exact .inl h
 ·rcases i with i | ⟨f,q,C,F,m⟩
  ·exact .inl i
  ·have H:f=g:=by
    rw[C] at e;injection e with e1;injection e1 with e1;injection e1
   subst H;exact .inr ⟨f,cap,e,z,I.upd u (E f z m.toL.lt)⟩
theorem quf{en:Nat}{f:Nat→Prop}{c:Ch}{w:World}(h:ChS w en f c):Calls Tryz.prog 20 #[.pointer (some ⟨en,0,none⟩)] w fun e w'=>∃u,e = .returned u∧qq w w'∧LvB w' w.heap.size u c.xs:=by
 refine(qqm en f c w h).mono ?_;rintro e w' ⟨u,rfl,n,(⟨a,k,rfl,v⟩ | ⟨i,cap,rfl,m,q⟩)⟩
 ·exact⟨_,rfl,n,.inl ⟨a,k,rfl,v⟩⟩
 ·exact⟨_,rfl,n,.inr ⟨i,cap,rfl,m,q⟩⟩
attribute [local go_sem ↓ high] qz zb zc zf qah
attribute [local go_sem] qaw qax qa1 qw zt qcl
end Go.Proofs.YtfmkdoachjgjbaaGreatDoor
namespace Go.Proofs.YtfmkdoachjgjbaaGreatDoor
open Go.RowKit
set_option maxRecDepth 100000 in
set_option maxHeartbeats 1000000 in
theorem que(g:Nat)(S:Nat→Prop)(l:Lk)(w:World)(a:Option Addr)(n k:Nat)(h:LkS w g S l)(hd:l.dead=false)(v:l.ev = .slice a n k) :
  Calls Tryz.prog 16 #[.pointer (some ⟨g,0,none⟩)] w fun e w'=>e = .returned (.slice a n k)∧LkS w' g S {l with ev:=qco} ∧ Upd (· = g) w w':=by
 obtain⟨sp,en,lo,i,m,h⟩:=h
 have C:w.cell? ⟨g,6,none⟩=some (.bool false):=hd▸qg h.at_ 6
 have z:w.cell? ⟨g,4,none⟩=some (.slice a n k):=v▸qg h.at_ 4
 have E:=qu h.at_ 4
 have u:Upd (· = g) w (w.setCell ⟨g,4,none⟩ (.slice none 0 0)):=(Upd.refl _ _).set1 _ _
 have q:LkP (w.setCell ⟨g,4,none⟩ (.slice none 0 0)) g S {l with ev:=qco} sp en lo i m:=h.put rfl rfl rfl rfl
 have f:=qb (And.intro q u)
 clear h u q hd v
 go_enter Tryz.func16,Tryz.ntmps16
 go_wp2_with fail
 go_ret
 exact⟨rfl,⟨sp,en,lo,i,m,(qa f).1⟩,(qa f).2⟩
set_option maxRecDepth 100000 in
set_option maxHeartbeats 1000000 in
theorem qu1(g:Nat)(w:World)(f:w.cell? ⟨g,8,none⟩=some (.bool true)):Calls Tryz.prog 87 #[.pointer (some ⟨g,0,none⟩)] w fun e w'=>e = .returned (.int .i64 5)∧w=w':=by
 go_enter Tryz.func87,Tryz.ntmps87;go_wp2_with fail;go_ret;exact⟨rfl,rfl⟩
end Go.Proofs.YtfmkdoachjgjbaaGreatDoor
