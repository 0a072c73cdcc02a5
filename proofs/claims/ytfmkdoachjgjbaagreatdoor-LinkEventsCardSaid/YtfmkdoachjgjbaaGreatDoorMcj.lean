/-
  A link: Offer.
-/
import Derived.Test.YtfmkdoachjgjbaaGreatDoorMcg
import Derived.Test.YtfmkdoachjgjbaaGreatDoorMce
import Derived.Test.YtfmkdoachjgjbaaGreatDoorMag
import Derived.Test.YtfmkdoachjgjbaaGreatDoorMbf
import Derived.Test.YtfmkdoachjgjbaaGreatDoorMbg
set_option maxRecDepth 100000
set_option maxHeartbeats 2000000
set_option linter.unusedVariables false
set_option linter.unusedSimpArgs false
namespace Go.Proofs.YtfmkdoachjgjbaaGreatDoor
section
open Go.RowKit
attribute [local go_sem ↓ high] qz zb ze zi qak zl
attribute [local go_sem] qax qay qa4 qx qab qco qbl
end
section
open Go.RowKit
def Ch.new(s:SetupV):Ch:=⟨s,.zero,s.ours,s.cap-s.ours,[],List.replicate 17 .zero,[],[]⟩
theorem Ch.new_ok{s:SetupV}(h:s.Ok)(m:s.may):(Ch.new s).Ok:=by
 obtain⟨m1,v,z,_,_⟩:=m;have i:=h.ours;have r:=h.cap;refine⟨h,⟨Int.le_refl _,show (0:Int)≤65535 by decide⟩,⟨Int.le_refl _,show (0:Int)<4294967296 by decide⟩,⟨Int.le_refl _,show (0:Int)<18446744073709551616 by decide⟩,⟨Int.le_refl _,show (0:Int)<18446744073709551616 by decide⟩,i,?_,?_,Nat.zero_le _,⟨rfl,?_⟩,?_,?_,⟨Nat.zero_le _,Nat.zero_le _⟩⟩
 ·show 0≤s.cap-s.ours∧s.cap-s.ours<_;omega
 ·intro x f;cases f
 ·intro p q;rw[List.eq_of_mem_replicate q];rfl
 ·intro x f;cases f
 ·intro x f;cases f
theorem q8t{w:World}{g:Nat}{s:SetupV}(h:ChR w g (.new s))(i:s.Ok)(m:s.may):ChS w g (· = g) (Ch.new s):=by
 refine⟨qcu,qcu,qcu,h.at_,Ch.new_ok i m,World.ownsRow_nil _ _ _ _,World.ownsRow_nil _ _ _ _,World.ownsRow_nil _ _ _ _,rfl,?_,?_,?_,?_,?_⟩
 ·intro k f;simp[qcu,Value.ownBlock] at f
 ·intro k f;simp[qcu,Value.ownBlock] at f
 ·intro k f;simp[qcu,Value.ownBlock] at f
 ·intro k f;simp[qcu,Value.ownBlock] at f
 ·intro k f;rw[f];exact zr h.at_
theorem q6g{c i a e:Int}(h:List Int)(f:a≤1125899906842624)(m:0≤e∧e≤1073741824):qam ⟨3,c,i,a,h,e,0⟩=true:=by
 unfold qam;show (if e<0∨1073741824<e∨(0:Int)<0∨65535<(0:Int)∨1125899906842624<a then false else decide (qgf _ _=qbh 3))=true;rw[if_neg (by omega)];kernel_rfl
theorem qqw(c:Int)(T:List Int){n:Int}(f:0≤n∧n≤65535):qam ⟨6,c,0,0,T,0,n⟩=true:=by
 unfold qam;show (if (0:Int)<0∨1073741824<(0:Int)∨n<0∨65535<n∨1125899906842624<(0:Int) then false else decide (qgf _ _=qbh 6))=true;rw[if_neg (by omega)];kernel_rfl
theorem qhj{k c i a e n:Int}{h:List Int}(z:0≤k∧k<256)(q:0≤c∧c<4294967296)(v:0≤i∧i<18446744073709551616)(f:0≤a∧a≤1125899906842624)(C:h.length=32)(m:∀b∈h,0≤b∧b≤255)(r:0≤e∧e≤1073741824)(F:0≤n∧n≤65535)(E:qam ⟨k,c,i,a,h,e,n⟩=true):SayOk ⟨k,c,i,a,h,e,n⟩:=by
 refine⟨⟨⟨?_,q,v,⟨f.1,?_⟩,C,m,?_,?_⟩,⟨r.1,?_⟩,⟨F.1,?_⟩⟩,E,z⟩
 ·show -9223372036854775808≤k∧k≤9223372036854775807;omega
 ·show a<18446744073709551616;omega
 ·show -9223372036854775808≤e∧e≤9223372036854775807;omega
 ·show -9223372036854775808≤n∧n≤9223372036854775807;omega
 ·show e<4294967296;omega
 ·show n<65536;omega
theorem NewL.whole{w:World}{B g:Nat}{s:SetupV}{l:LinkV}(h:NewL w B g s l)(I:s.Ok)(H:s.may):LkS w g (fun i=>i=g∨i=l.sp∨i=l.en∨i=l.lo) (.new (Ch.new s)):=by
 have E:=q8t h.ch I H;have F:=JoS.fresh h.jo;have f:LkR w g ((Lk.new (Ch.new s)).v l.sp l.en l.lo):=by
  have:=h.lk;rw[h.isNew] at this;exact this
 have J:=h.ne;refine⟨l.sp,l.en,l.lo,_,_,⟨f,h.sp,E,F,.inl rfl,.inr (.inl rfl),fun k e=> .inr (.inr (.inl e)),fun k e=> .inr (.inr (.inr e)),?_,?_,?_,?_,?_,?_⟩⟩
 ·show ¬g=l.en;omega
 ·show ¬g=l.lo;omega
 ·show ¬l.sp=l.en;omega
 ·show ¬l.sp=l.lo;omega
 ·intro k e m;have e:k=l.en:=e;have m:k=l.lo:=m;omega
 ·have q:=zr h.lk;have r:=zr h.sp;have z:=zr h.ch.at_;have C:=zr h.jo;rintro k (e | e | e | e)<;>rw[e]
  ·exact q
  ·exact r
  ·exact z
  ·exact C
theorem q2u(g:Nat)(a:Option Addr)(k:Nat)(w:World):Calls Tryz.prog 72 #[.pointer (some ⟨g,0,none⟩),.slice a 0 k] w (qa2 (.int .i64 0) w):=by
 go_enter Tryz.func72,Tryz.ntmps72;go_wp2_with fail
 go_loopw [13] (fun f wr=>f = .int .i64 0∧wr=w) (fun _ _=>0)
 case atStart=>exact⟨rfl,rfl⟩
 case round =>
  obtain⟨rfl,rfl⟩:=hrel;go_wp2_with fail;go_ret;exact⟨rfl,Q.refl _⟩
theorem q1r{en:Nat}{f:Nat→Prop}{c:Ch}{w:World}(h:ChS w en f c)(i:c.xs=[]):Calls Tryz.prog 20 #[.pointer (some ⟨en,0,none⟩)] w fun e w'=>∃a k,e = .returned (.slice a 0 k)∧qq w w':=by
 refine(qqt en f c w h).mono ?_;rintro e w' ⟨u,rfl,n,(⟨a,k,rfl,-⟩ | ⟨m,cap,rfl,-,-⟩)⟩
 ·exact⟨a,k,rfl,n⟩
 ·rw[i];exact⟨_,cap,rfl,n⟩
attribute [local go_sem ↓ high] qz zb ze zi qak
attribute [local go_sem] qax qay qa4 qx qab qco
theorem q09(H M C g:Nat)(S:Nat→Prop)(l:Lk)(sp en lo:Nat)(i L:Nat→Prop)(m:MsgV)(c':Ch)(F:List MsgV)(er:Int)(v0:Value)(w:World)(h:LkP w g S l sp en lo i L)(N:w.cell? ⟨H,0,none⟩=some (.pointer (some ⟨g,0,none⟩)))(J:MsB w M m)(r:w.heap[C]? = some (.cells #[v0] 124 (0,0)))(O:¬i C)
  (I:∀a,qq w a→Calls Tryz.prog 107 #[.pointer (some ⟨en,0,none⟩),.agg m.cells.toArray] a (qe7 en i a c' F er)) :
  Calls Tryz.prog 106 #[.pointer (some ⟨H,0,none⟩),.pointer (some ⟨M,0,none⟩),.pointer (some ⟨C,0,none⟩)] w fun e w'=>e = .returned (.int .i64 er)∧∃a a1 v,qq w a∧Upd i a a1∧ChS a1 en (Fr i a a1) c'∧qb6 a.heap.size a1 v F∧w'=a1.setCell ⟨C,0,none⟩ v:=by
 have P:w.cell? ⟨g,1,none⟩=some (.pointer (some ⟨en,0,none⟩)):=qg h.at_ 1
 have T:=J.row
 have q:=I _ ((Upd.refl (fun _=>False) w).drew)
 clear h I J
 go_enter Tryz.func106,Tryz.ntmps106
 go_wp2_with (with_reducible first|(first|refine' tw1 (qh ?_) ?_|refine' tw2 (qh ?_) ?_);rotate_left|refine' tw3 (qh ?_)|rfl|apply tn|refine' tw4 ?_)
 refine q.mono ?_
 rintro e w1 ⟨v,rfl,z,E,u⟩
 obtain⟨U,V,rfl⟩:∃a c,v = .slice a F.length c:=qaf z
 have f:=u.old (((Upd.refl (fun _=>False) w).drew).old r (fun h=>h)) O
 have f1:=qv f 0
 have R:=qg f 0
 have K:=qb (And.intro z (And.intro E u))
 clear z E u f q r
 go_wp2_with (with_reducible first|(first|refine' tw1 (qh ?_) ?_|refine' tw2 (qh ?_) ?_);rotate_left|refine' tw3 (qh ?_)|rfl|apply tn|refine' tw4 ?_)
 go_ret
 obtain⟨z,E,u⟩:=qa K
 exact⟨rfl,_,_,_,(Upd.refl (fun _=>False) w).drew,u,E,z,rfl⟩
theorem qw9(f i g:Nat)(a:Option Addr)(k:Nat)(w:World)(m:w.cell? ⟨f,0,none⟩=some (.pointer (some ⟨g,0,none⟩)))(r:w.cell? ⟨i,0,none⟩=some (.slice a 0 k)) :
  Calls Tryz.prog 108 #[.pointer (some ⟨f,0,none⟩),.pointer (some ⟨i,0,none⟩)] w (qa2 (.int .i64 0) w):=by
 go_enter Tryz.func108,Tryz.ntmps108
 go_wp2_with fail
 refine(q2u g a k w).mono ?_
 rintro e w1 ⟨rfl,q⟩
 go_wp2_with fail
 go_ret
 exact⟨rfl,q⟩
end
section
open Go.RowKit
attribute [local go_sem ↓ high] qbf
attribute [local go_sem] qdo qx
def LvO(w:World)(v:Value)(xs:List Live):Prop:=(∃a k,v = .slice a 0 k∧xs=[])∨∃g cap,v = .slice (some ⟨g,0,none⟩) xs.length cap∧qdy w g 0 xs
theorem LvO.new{w w':World}{v:Value}{xs:List Live}(h:LvO w v xs)(n:qq w w'):LvO w' v xs:=h.imp id (fun⟨g,cap,e,f⟩=>⟨g,cap,e,f.upd n (fun h=>h)⟩)
theorem LvO.shape{w:World}{v:Value}{xs:List Live}(h:LvO w v xs):∃a cap,v = .slice a xs.length cap∧(xs=[]∨∃g,a=some ⟨g,0,none⟩∧qdy w g 0 xs):=by
 rcases h with ⟨a,k,rfl,rfl⟩ | ⟨g,cap,rfl,f⟩
 ·exact⟨a,k,rfl,.inl rfl⟩
 ·exact⟨_,cap,rfl,.inr ⟨g,rfl,f⟩⟩
def qcp(own:Bool)(id:Int)(x:Live):Bool:=x.own==own&&x.h.id==id
theorem q0r(own:Bool)(id:Int)(x:Live)(v z:Nat)(w:World)(q:w.cell? ⟨v,0,none⟩=some (.bool own))(r:w.cell? ⟨z,0,none⟩=some (.int .u64 id)) :
  Calls Tryz.prog 183 #[.agg (qo x).toArray,.pointer (some ⟨v,0,none⟩),.pointer (some ⟨z,0,none⟩)] w (qa7 (.bool (qcp own id x)) w):=by
 go_enter Tryz.func183,Tryz.ntmps183
 go_upto_region 1 with fail
 have i:(w.alloc (.cells (qo x).toArray 69)).heap[w.heap.size]? = some (.cells (qo x).toArray 69 (0,0)):=qj _ _
 have f:qq w (w.alloc (.cells (qo x).toArray 69)):=(Upd.refl _ _).alloc _
 generalize w.alloc (.cells (qo x).toArray 69)=w1 at i f ⊢
 replace q:=f.cell q (fun h=>h)
 replace r:=f.cell r (fun h=>h)
 have C:w1.cell? ⟨w.heap.size,35,none⟩=some (.bool x.own):=by rw[qg i,List.getElem?_toArray];exact qfo x
 have E:w1.cell? ⟨w.heap.size,0,none⟩=some (.int .u64 x.h.id):=by rw[qg i,List.getElem?_toArray];exact qsn x
 clear i
 cases m:x.own==own with
 | false =>
  go_wp2_with (with_reducible first|(first|refine' tw1 (qh ?_) ?_|refine' tw2 (qh ?_) ?_);rotate_left|refine' tw3 (qh ?_)|rfl|apply tn|refine' tw4 ?_);go_ret;exact⟨by unfold qcp;rw[m];rfl,f⟩
 | true =>
  go_wp2_with (with_reducible first|(first|refine' tw1 (qh ?_) ?_|refine' tw2 (qh ?_) ?_);rotate_left|refine' tw3 (qh ?_)|rfl|apply tn|refine' tw4 ?_);go_ret;exact⟨by unfold qcp;rw[m];rfl,f⟩
def qg1(own:Bool)(id:Int)(xs:List Live):Int:=match xs.findIdx? (qcp own id) with | some i=>i | none=> -1
theorem qxg(own:Bool)(id:Int)(M N:Nat)(v:Value)(xs:List Live)(w:World)(hv:LvO w v xs)(hl:xs.length≤1000000)(X:w.cell? ⟨M,0,none⟩=some (.bool own))(Y:w.cell? ⟨N,0,none⟩=some (.int .u64 id)) :
  Calls Tryz.prog 128 #[v,.func (.func 183) #[] #[.pointer (some ⟨M,0,none⟩),.pointer (some ⟨N,0,none⟩)]] w (qa7 (.int .i64 (qg1 own id xs)) w):=by
 obtain⟨a,cap,rfl,f⟩:=hv.shape
 have m:∀(i:Nat) (x:Live),xs[i]? = some x→∃C,a=some ⟨C,0,none⟩∧qd9 w C 0 xs:=by
  intro i x T;have q:=(List.getElem?_eq_some_iff.1 T).1;rcases f with W | ⟨C,e,H⟩
  ·rw[W] at q;simp at q
  ·exact⟨C,e,H.toL⟩
 clear f
 have a6:(xs.length:Int)≤1000000:=by omega
 go_enter Tryz.func128,Tryz.ntmps128
 go_wp2_with fail
 go_loopw [5,8] (fun _ L wr=>∃i:Nat,L = .int .i64 (i:Int)∧i≤xs.length∧(∀j x,j<i→xs[j]? = some x→qcp own id x=false)∧qq w wr) (fun _ L _=>xs.length-(intOf L).toNat)
 case atStart=>exact⟨0,rfl,Nat.zero_le _,fun j x h=>by omega,Upd.refl _ _⟩
 case round =>
  obtain⟨i,rfl,T,R,z⟩:=hrel;obtain⟨O,rfl⟩:∃O:World,O=wr:=⟨_,rfl⟩;have I:=qb R;clear R;by_cases q:i<xs.length
  ·obtain⟨x,r⟩:∃x,xs[i]? = some x:=⟨_,List.getElem?_eq_getElem q⟩;obtain⟨C,rfl,H⟩:=m i x r;have f:=(H.upd z (fun h=>h)).row r;rw[Nat.zero_add] at f;have Z:(i:Int)<(xs.length:Int):=by omega
   have S:=q0r own id x M N O (z.cell X (fun h=>h)) (z.cell Y (fun h=>h));have P:=qb r;clear H m r;go_wp2_with fail;refine S.mono ?_;rintro e w2 ⟨rfl,U⟩;have V:=z.trans U;clear S f z U;cases E:qcp own id x with
   | true =>
    go_wp2_with fail;go_ret;have J:xs.findIdx? (qcp own id)=some i:=by
     rw[List.findIdx?_eq_some_iff_getElem];refine⟨q,?_,fun j F=> ?_⟩
     ·have:=qa P;rw[List.getElem?_eq_getElem q] at this;rw[Option.some.inj this,E]
     ·have:=qa I j _ F (List.getElem?_eq_getElem (by omega));rw[this];decide
    exact⟨by unfold qg1;rw[J];rfl,V⟩
   | false =>
    go_wp2_with fail;go_roundw
    case rel =>
     refine⟨i+1,by go_num,by omega,fun j y F K=> ?_,V⟩;by_cases e:j<i
     ·exact qa I j y e K
     ·obtain rfl:j=i:=by omega
      rw[qa P] at K;rw[←Option.some.inj K];exact E
    case measure=>simp[intOf];omega
  ·obtain rfl:i=xs.length:=by omega
   clear m;go_wp2_with fail;go_ret;have J:xs.findIdx? (qcp own id)=none:=by
    rw[List.findIdx?_eq_none_iff];intro x hx;obtain⟨j,F,rfl⟩:=List.mem_iff_getElem.1 hx;exact qa I j _ F (List.getElem?_eq_getElem F)
   exact⟨by unfold qg1;rw[J];rfl,z⟩
theorem qoi(own:Bool)(id:Int)(v:Value)(xs:List Live)(w:World)(C:LvO w v xs)(z:xs.length≤1000000) :
  Calls Tryz.prog 145 #[v,.bool own,.int .u64 id] w (qa7 (.int .i64 (qg1 own id xs)) w):=by
 have I:∀(r:Fn) (first cap:Array Value) (w:World),(Instr.makeFunc r first cap).run Tryz.prog w = .ok (.func r first cap) w:=fun _ _ _ _=>rfl
 go_enter Tryz.func145,Tryz.ntmps145
 go_upto_region 1 with fail
 have m:qq w ((w.alloc (.cells #[.bool own] 4)).alloc (.cells #[.int .u64 id] 22)):=((Upd.refl _ _).alloc _).alloc _
 have f:((w.alloc (.cells #[.bool own] 4)).alloc (.cells #[.int .u64 id] 22)).heap[w.heap.size]? = some (.cells #[.bool own] 4 (0,0)):=qs (qj _ _) _
 have i:((w.alloc (.cells #[.bool own] 4)).alloc (.cells #[.int .u64 id] 22)).heap[w.heap.size+1]? = some (.cells #[.int .u64 id] 22 (0,0)):=by
  have:=qj (w.alloc (.cells #[.bool own] 4)) (.cells #[.int .u64 id] 22);rwa [World.size_alloc] at this
 generalize (w.alloc (.cells #[.bool own] 4)).alloc (.cells #[.int .u64 id] 22)=J at m f i ⊢
 have E:=qxg own id w.heap.size (w.heap.size+1) v xs J (C.new m) z (qg f 0) (qg i 0)
 have q:=qb m
 clear f i m C z
 go_wp2_with fail
 refine E.mono ?_
 rintro e K ⟨rfl,F⟩
 have H:=qb ((qa q).trans F)
 clear E F q
 go_wp2_with fail
 go_ret
 exact⟨rfl,qa H⟩
end
section
open Go.RowKit
attribute [local go_sem ↓ high] qbf qbs qci
attribute [local go_sem] qdo qd2 qfl qx
def qgz(f:List Live)(x:Live):Bool:= !x.own&&(x.state==4&&(match f.findIdx? (qcp false x.h.id) with | some i=>(f.getD i x).state != 4 | none=>true))
def qiy(f:List Live)(x:Live):Bool:=x.own&&(!x.paid&&(f.findIdx? (qcp true x.h.id)).isNone)
end
section
open Go.RowKit
attribute [local go_sem ↓ high] qz zb ze
attribute [local go_sem] qax qay qa4 qx
theorem q7d(g B cap:Nat)(S:Nat→Prop)(l:Lk)(sp en lo:Nat)(Z SJ:Nat→Prop)(f:List MsgV)(w:World)(h:LkP w g S l sp en lo Z SJ)(U:∀m∈f,SayOk m)(hn:f.length≤1000)(hz:l.out.size≤1099511627776)
  (hr:∀i m,f[i]? = some m→zf w B (i*38) 38=some m.cells.toArray) (hB:B≠g) :
  Calls Tryz.prog 72 #[.pointer (some ⟨g,0,none⟩),.slice (some ⟨B,0,none⟩) f.length cap] w fun e w'=>e = .returned (.int .i64 0)∧LkP w' g S {l with out:=qaq f l.out} sp en lo Z SJ∧Upd (· = g) w w':=by
 have b7:(f.length:Int)≤1000:=by omega
 have b5:=h.lt g h.inG
 have H:=qb h
 have HR:=qb hr
 have HM:=qb U
 clear h hr U
 go_enter Tryz.func72,Tryz.ntmps72
 go_wp2_with fail
 go_loopw [13] (fun iv wr=>∃i:Nat,iv = .int .i64 (i:Int)∧i≤f.length∧Hid (LkP wr g S {l with out:=qaq (f.take i) l.out} sp en lo Z SJ)∧Upd (· = g) w wr) (fun iv _=>f.length-(intOf iv).toNat)
 case atStart=>exact⟨0,rfl,Nat.zero_le _,H,Upd.refl _ _⟩
 case round =>
  obtain⟨i,rfl,hi,hC,u⟩:=hrel;obtain⟨E,rfl⟩:∃E:World,E=wr:=⟨_,rfl⟩;by_cases J:i<f.length
  ·have b6:(i:Int)<(f.length:Int):=by omega
   have R:f[i]? = some f[i]:=List.getElem?_eq_getElem J;generalize f[i]=m at R;have q:=qa HM m (List.mem_of_getElem? R);have rB:=qap (qa HR i m R) u hB;have a7:=q.put.ok.len;have T:=qb u;have HX:=qb R;have W:=qb q;clear u R q;obtain⟨N,v,V⟩:=qi7 E m a7;go_upto_region 4 with fail;change Code.wp _ _ _ _ (qj4 E m);generalize qj4 E m=w1 at v V ⊢;generalize E.heap.size=K at v N ⊢;have rK:=v.row;obtain⟨t,a8,b3,P,C⟩:=qmk m (qa W) w1;have r:=fun w'=>qu6 t w' a8 b3
   have hP:=(qa hC).new V;have U1:=qb ((qa T).trans (V.mono (fun _ _ h=>h.elim)));have L:=qhk ⟨#[]⟩ (f.take i) (fun m U=>qa HM m (List.mem_of_mem_take U)) l.out;have M:(qaq (f.take i) l.out).size≤1099512653776:=by
    rw[List.length_take] at L;omega
   have a6:(qc0 t).size≤1026:=by rw[qd3];omega
   generalize hO:qaq (f.take i) l.out=O at hP M;have HO:=qb hO;have X:=qb hP;have F:=qb P;generalize qc0 t=ft at r a6 F;clear N v V hC T hP L hO P;go_wp2_with fail;refine C.mono ?_;rintro e w2 ⟨rfl,n2⟩;have X:=qb ((qa X).new n2);have U2:=qb ((qa U1).trans (n2.mono (fun _ _ h=>h.elim)));clear C rK n2;go_wp2_with fail;refine(r w2).mono ?_;rintro e w3 ⟨rfl,n3⟩;have z:=(qa X).new n3;have U3:=qb ((qa U2).trans (n3.mono (fun _ _ h=>h.elim)));have c3:w3.cell? ⟨g,3,none⟩=some (.string O):=qg z.at_ 3;have f3:=qv z.at_ 3;have I:=z.put_out (O++ft);have u4:Upd (· = g) w3 (w3.setCell ⟨g,3,none⟩ (.string (O++ft))):=(Upd.refl _ _).set1 _ _;have Y:=qb I;have U4:=qb ((qa U3).trans u4);have b4:O.size+ft.size≤9223372036854775807:=by omega
   clear r n3 z I u4;go_wp2_with fail;go_roundw
   case rel =>
    refine⟨i+1,by go_num,J,?_,qa U4⟩;have e1:=qq6 (qa HX) l.out;rw[qa HO,qa F] at e1;rw[e1];exact Y
   case measure=>simp[intOf];omega
  ·obtain rfl:i=f.length:=by omega
   have T:=qb u;clear u;go_wp2_with fail;go_ret;refine⟨rfl,?_,qa T⟩;have:=qa hC;rw[List.take_length] at this;exact this
end
section
open Go.RowKit
attribute [local go_sem ↓ high] qz zb ze zi qak
attribute [local go_sem] qax qay qa4 qx qab qco
end
section
open Go.RowKit
theorem qxx(E O F g:Nat)(S:Nat→Prop)(l:Lk)(sp en lo:Nat)(SC K:Nat→Prop)(xs:List ByteArray)(w:World)(h:LkP w g S l sp en lo SC K)(hd:l.dead=false)(hf:l.j.fused=false)(ho:l.j.off=false)
  (hm:0≤l.j.many∧l.j.many<1099511627776) (z:l.j.bs.size≤1099511627776) (hT:Tabs w) (hn:xs.length≤1000) (U:(zq xs).size≤1024)
  (c0:w.cell? ⟨E,0,none⟩=some (.pointer (some ⟨g,0,none⟩))) (c1:w.cell? ⟨O,0,none⟩=some (.slice (some ⟨F,0,none⟩) xs.length xs.length)) (hx:∀j x,xs[j]? = some x→w.cell? ⟨F,j,none⟩=some (.string x)) (T:F<w.heap.size) (hP:¬S E) :
  Calls Tryz.prog 112 #[.pointer (some ⟨E,0,none⟩),.pointer (some ⟨O,0,none⟩)] w fun e w'=>e = .returned (.int .i64 0)∧(∃a6,LkP w' g (Fr S w w') {l with j:=l.j.app (zq xs)} sp en lo SC a6)∧Upd (fun k=>K k∨k=g) w w':=by
 have c2:w.cell? ⟨g,2,none⟩=some (.pointer (some ⟨lo,0,none⟩)):=qg h.at_ 2
 have i:=fun w' (r:qq w w')=>quj F xs w' (fun j x e=>r.cell (hx j x e) (fun h=>h)) (Nat.lt_of_lt_of_le T r.size) hn (by omega)
 have v:=fun b w' (r:qq w w') hb hS=>qmp lo b K l.j (zq xs) w' (h.jou.new r) hf ho U hm z (hT.new r) hb hS
 have L:(w.cell? ⟨E,0,none⟩=some (.pointer (some ⟨g,0,none⟩)))∧(w.cell? ⟨g,2,none⟩=some (.pointer (some ⟨lo,0,none⟩)))∧w.cell? ⟨O,0,none⟩=some (.slice (some ⟨F,0,none⟩) xs.length xs.length):=⟨c0,c2,c1⟩
 have HC:=qb L
 have H:=qb h
 have m:∀w',qq w w'→(w'.cell? ⟨E,0,none⟩=some (.pointer (some ⟨g,0,none⟩)))∧(w'.cell? ⟨g,2,none⟩=some (.pointer (some ⟨lo,0,none⟩)))∧w'.cell? ⟨O,0,none⟩=some (.slice (some ⟨F,0,none⟩) xs.length xs.length):=fun w' r=>⟨r.cell L.1 (fun h=>h),r.cell L.2.1 (fun h=>h),r.cell L.2.2 (fun h=>h)⟩
 have Y:=qb h.jou.lt
 generalize hJ:zq xs=J at *
 clear h c0 c1 c2 hx hn U T hm z hT hJ
 go_enter Tryz.func112,Tryz.ntmps112
 go_upto_region 1 with fail
 refine qa1 (fun w'=>(w'.cell? ⟨E,0,none⟩=some (.pointer (some ⟨g,0,none⟩)))∧(w'.cell? ⟨g,2,none⟩=some (.pointer (some ⟨lo,0,none⟩)))∧w'.cell? ⟨O,0,none⟩=some (.slice (some ⟨F,0,none⟩) xs.length xs.length)) [0,3,4] (.of [0,1,2,3,4,5,6,7,8]) (by kernel_rfl) (by kernel_rfl) L ?_
 simp only[Plan.of]
 have k0:=m _ ((Upd.refl (fun _=>False) w).drew)
 clear L
 go_wp2_with (with_reducible first|(first|refine' zv (qh ?_) ?_|refine' zx (qh ?_) ?_|refine' zy (qh ?_) ?_);rotate_left|refine' zz (qh ?_)|refine' qw5 (qh ?_)|rfl|apply qn)
 refine(i _ ((Upd.refl (fun _=>False) w).drew)).mono ?_
 rintro e w1 ⟨rfl,M⟩
 have M:=M.ofDrew
 have k1:=m _ M
 clear i k0
 go_wp2_with (first | (with_reducible first|(first|refine' zv (qh ?_) ?_|refine' zx (qh ?_) ?_|refine' zy (qh ?_) ?_);rotate_left|refine' zz (qh ?_)|refine' qw5 (qh ?_)|rfl|apply qn) | refine⟨k1,?_⟩)
 have C:qq w (w1.alloc (.cells #[.string J] 9)):=M.alloc _
 have V:qq w1 (w1.alloc (.cells #[.string J] 9)):=(Upd.refl _ _).alloc _
 have b2:=qg (qj w1 (.cells #[.string J] 9)) 0
 have k2:=m _ C
 have a8:=M.size
 generalize w1.alloc (.cells #[.string J] 9)=w2 at C V b2 k2 ⊢
 refine⟨k2,?_⟩
 generalize hB:w1.heap.size=B at b2 ⊢
 have f:=v B w2 C b2 (fun e=>by have:=(qa Y) B e;omega)
 have N2:=qb C
 clear v M C V k1 b2 hB a8
 go_wp2_with (first | (with_reducible first|(first|refine' zv (qh ?_) ?_|refine' zx (qh ?_) ?_|refine' zy (qh ?_) ?_);rotate_left|refine' zz (qh ?_)|refine' qw5 (qh ?_)|rfl|apply qn) | refine⟨k2,?_⟩)
 refine f.mono ?_
 rintro e X ⟨rfl,P,I⟩
 have N:=(qa N2)
 have q:=((qa H).new N).jour I P
 have d0:X.cell? ⟨E,0,none⟩=some (.pointer (some ⟨g,0,none⟩)):=I.cell k2.1 (fun e=>hP ((qa H).inJ _ e))
 have d6:=qv q.at_ 6
 have b3:X.cell? ⟨g,6,none⟩=some (.bool false):=hd▸qg q.at_ 6
 have R:=q.put_dead false
 have W:Upd (· = g) X (X.setCell ⟨g,6,none⟩ (.bool false)):=(Upd.refl _ _).set1 _ _
 have Z:=qb R
 have U3:=qb I
 have U4:=qb W
 have K2:=qb k2
 clear f P N q R I W k2 m
 go_wp2_with (first | (with_reducible first|(first|refine' zv (qh ?_) ?_|refine' zx (qh ?_) ?_|refine' zy (qh ?_) ?_);rotate_left|refine' zz (qh ?_)|refine' qw5 (qh ?_)|rfl|apply qn) | (with_reducible first|(first|refine' tw1 (qh ?_) ?_|refine' tw2 (qh ?_) ?_);rotate_left|refine' tw3 (qh ?_)|rfl|apply tn|refine' tw4 ?_) | refine⟨trivial,?_⟩)
 go_ret
 have C:=qa N2
 have I:=qa U3
 have W:=qa U4
 have z2:=C.size
 have z3:=I.size
 have z4:=W.size
 have h:=qa H
 have a7:=h.lt
 have e:({l with j:=l.j.app J} : Lk)=⟨l.c,l.j.app J,l.rest,l.out,l.ev,l.ticks,false,l.broken,l.waits⟩:=by rw[←hd]
 refine⟨rfl,⟨Fr K w2 X,?_⟩,?_⟩
 ·rw[e];refine(qa Z).wider ?_ ?_
  ·rintro k (m | m)
   ·exact .inl m
   ·exact .inr ⟨by omega,by omega⟩
  ·rintro k (m | m)
   ·have:=a7 k m;omega
   ·exact m.2
 ·exact((C.mono (fun _ _ h=>h.elim)).trans (I.mono (fun k _ e=>(Or.inl e:K k∨k=g)))).trans (W.mono (fun k _ e=>(Or.inr e:K k∨k=g)))
def q5q(i:Nat):Nat:=if i=0 then 106 else if i=1 then 112 else if i=2 then 108 else 109
def qoo(f M m q r v:Nat)(i:Nat):Array Value :=
 if i=0 then #[.pointer (some ⟨f,0,none⟩),.pointer (some ⟨M,0,none⟩),.pointer (some ⟨m,0,none⟩)] else if i=1 then #[.pointer (some ⟨r,0,none⟩),.pointer (some ⟨v,0,none⟩)] else if i=2 then #[.pointer (some ⟨f,0,none⟩),.pointer (some ⟨m,0,none⟩)] else #[.pointer (some ⟨f,0,none⟩),.pointer (some ⟨M,0,none⟩),.pointer (some ⟨q,0,none⟩)]
attribute [local go_sem ↓ high] qz zb ze zi qak
attribute [local go_sem] qax qay qa4 qx qab qco
end
section
open Go.RowKit
attribute [local go_sem ↓ high] qz zb ze zi qak
attribute [local go_sem] qax qay qa4 qx qab qco
theorem qx3{w:World}{base f:Nat}{e:TypeId}{size:Nat}{v:Value}{n:Nat}{xs:List Value}(h:w.ownsRow base e size v n xs)(z:f≤base):w.ownsRow f e size v n xs:=by
 refine⟨h.1,?_⟩;rcases h.2 with h | ⟨g,cap,i,m,q,r⟩
 ·exact .inl h
 ·exact .inr ⟨g,cap,i,m,Nat.le_trans z q,r⟩
structure GSt(W:World)(g:Nat)(S:Nat→Prop)(sp en lo SD:Nat)(SJ:Nat→Prop)(ms:List MsgV)(L:Lk)(a:World):Prop where
 upd:Upd (fun k=>S k∨k=SD) W a
 said:∃v,a.cell? ⟨SD,0,none⟩=some v∧qb6 W.heap.size a v ms
 lk:∃SC,LkP a g (Fr S W a) L sp en lo SC SJ
structure GS2(W:World)(g:Nat)(S:Nat→Prop)(sp en lo SD:Nat)(ms:List MsgV)(L:Lk)(a:World):Prop where
 upd:Upd (fun k=>S k∨k=SD) W a
 said:∃v,a.cell? ⟨SD,0,none⟩=some v∧qb6 W.heap.size a v ms
 lk:∃SC SJ,LkP a g (Fr S W a) L sp en lo SC SJ
structure GS3(W:World)(g:Nat)(S:Nat→Prop)(sp en lo SD:Nat)(L:Lk)(a:World):Prop where
 upd:Upd (fun k=>S k∨k=SD) W a
 lk:∃SC SJ,LkP a g (Fr S W a) L sp en lo SC SJ
end
section
open Go.RowKit
def LvB(w:World)(base:Nat)(v:Value)(xs:List Live):Prop:=(∃a k,v = .slice a 0 k∧xs=[])∨∃g cap,v = .slice (some ⟨g,0,none⟩) xs.length cap∧base≤g∧qdy w g 0 xs
theorem LvB.toO{w:World}{base:Nat}{v:Value}{xs:List Live}(h:LvB w base v xs):LvO w v xs:=h.imp id (fun⟨g,cap,e,_,f⟩=>⟨g,cap,e,f⟩)
theorem LvB.upd{T:Nat→Prop}{w w':World}{base:Nat}{v:Value}{xs:List Live}(h:LvB w base v xs)(u:Upd T w w')(m:∀k,base≤k→k<w.heap.size→¬T k):LvB w' base v xs :=
 h.imp id (fun⟨g,cap,e,f,i⟩=>⟨g,cap,e,f,i.upd u (m g f i.toL.lt)⟩)
theorem LvB.upd2{T:Nat→Prop}{w0 w w':World}{base:Nat}{v:Value}{xs:List Live}(h:LvB w base v xs)(_:w0.heap.size≤w.heap.size)(i:LvB w0 base v xs)(u:Upd T w w')(C:∀k,base≤k→k<w0.heap.size→¬T k):LvB w' base v xs:=by
 rcases h with h | ⟨g,cap,e,r,H⟩
 ·exact .inl h
 ·rcases i with i | ⟨f,q,z,E,m⟩
  ·exact .inl i
  ·have F:f=g:=by
    rw[z] at e;injection e with e1;injection e1 with e1;injection e1
   subst F;exact .inr ⟨f,cap,e,r,H.upd u (C f r m.toL.lt)⟩
theorem quq{en:Nat}{f:Nat→Prop}{c:Ch}{w:World}(h:ChS w en f c):Calls Tryz.prog 20 #[.pointer (some ⟨en,0,none⟩)] w fun e w'=>∃u,e = .returned u∧qq w w'∧LvB w' w.heap.size u c.xs:=by
 refine(qqt en f c w h).mono ?_;rintro e w' ⟨u,rfl,n,(⟨a,k,rfl,r⟩ | ⟨i,cap,rfl,m,q⟩)⟩
 ·exact⟨_,rfl,n,.inl ⟨a,k,rfl,r⟩⟩
 ·exact⟨_,rfl,n,.inr ⟨i,cap,rfl,m,q⟩⟩
attribute [local go_sem ↓ high] qz zb ze zi qak
attribute [local go_sem] qax qay qa4 qx qab qco
end
section
open Go.RowKit
theorem qup(g:Nat)(S:Nat→Prop)(l:Lk)(w:World)(a:Option Addr)(n k:Nat)(h:LkS w g S l)(hd:l.dead=false)(r:l.ev = .slice a n k) :
  Calls Tryz.prog 16 #[.pointer (some ⟨g,0,none⟩)] w fun e w'=>e = .returned (.slice a n k)∧LkS w' g S {l with ev:=qcu} ∧ Upd (· = g) w w':=by
 obtain⟨sp,en,lo,i,m,h⟩:=h
 have z:w.cell? ⟨g,6,none⟩=some (.bool false):=hd▸qg h.at_ 6
 have v:w.cell? ⟨g,4,none⟩=some (.slice a n k):=r▸qg h.at_ 4
 have C:=qv h.at_ 4
 have u:Upd (· = g) w (w.setCell ⟨g,4,none⟩ (.slice none 0 0)):=(Upd.refl _ _).set1 _ _
 have q:LkP (w.setCell ⟨g,4,none⟩ (.slice none 0 0)) g S {l with ev:=qcu} sp en lo i m:=h.put rfl rfl rfl rfl
 have f:=qb (And.intro q u)
 clear h u q hd r
 go_enter Tryz.func16,Tryz.ntmps16
 go_wp2_with fail
 go_ret
 exact⟨rfl,⟨sp,en,lo,i,m,(qa f).1⟩,(qa f).2⟩
theorem qvb(g:Nat)(w:World)(f:w.cell? ⟨g,8,none⟩=some (.bool true)):Calls Tryz.prog 87 #[.pointer (some ⟨g,0,none⟩)] w fun e w'=>e = .returned (.int .i64 5)∧w=w':=by
 go_enter Tryz.func87,Tryz.ntmps87;go_wp2_with fail;go_ret;exact⟨rfl,rfl⟩
attribute [local go_sem ↓ high] qz zb ze zi
attribute [local go_sem] qax qay qa4 qab qtk qx
def qgl(id r:Int):MsgV:=⟨5,0,id,0,zg,0,r⟩
def Ch.fail(c:Ch)(id r:Int):Ch × MsgV × Int:=match qde false id c.xs with
 | none=>(c,MsgV.zero,3)
 | some p=>if r<0∨65535<r then (c,MsgV.zero,1) else ((c.removed p.1 p.2 false).say (qgl id r),(qgl id r).on c.s.ch,0)
theorem q0p{c:Ch}{id r:Int}(h:qde false id c.xs=none):c.fail id r=(c,MsgV.zero,3):=by unfold Ch.fail;rw[h]
theorem q43{c:Ch}{id r:Int}{p:Nat × Live}(h:qde false id c.xs=some p)(f:r<0∨65535<r):c.fail id r=(c,MsgV.zero,1):=by unfold Ch.fail;rw[h];simp only;rw[if_pos f]
theorem qqb{c:Ch}{id r:Int}{i:Nat}{x:Live}(h:qde false id c.xs=some (i,x))(f:¬(r<0∨65535<r)):c.fail id r=((c.removed i x false).say (qgl id r),(qgl id r).on c.s.ch,0):=by unfold Ch.fail;rw[h];simp only;rw[if_neg f]
theorem q42(g:Nat)(S:Nat→Prop)(c:Ch)(id r:Int)(w:World)(h:ChS w g S c)(a6:c.news.length<1000000) :
  Calls Tryz.prog 53 #[.pointer (some ⟨g,0,none⟩),.int .u64 id,.int .i64 r] w fun e w' =>
   e = .returned (.tuple #[.agg (c.fail id r).2.1.cells.toArray,.int .i64 (c.fail id r).2.2])∧ChS w' g (Fr S w w') (c.fail id r).1∧Upd S w w':=by
 obtain⟨lv,nv,av,h⟩:=h
 go_enter Tryz.func53,Tryz.ntmps53
 go_upto_region 1 with fail
 have V:=zt w MsgV.zero qm
 have n1:qq w (w.alloc (.cells MsgV.zero.cells.toArray 101)):=(Upd.refl _ _).alloc _
 generalize w.alloc (.cells MsgV.zero.cells.toArray 101)=w1 at V n1 ⊢
 obtain⟨B,X⟩:∃B,B=w.heap.size:=⟨_,rfl⟩
 rw[←X] at V ⊢
 have b5:w.heap.size≤B:=by omega
 have b6:g≠B:=by have:=h.lt g h.inG;omega
 have q:¬S B:=fun e=>by have:=h.lt B e;omega
 clear X
 have h1:=h.new n1
 have Z:=qkm g S c false id w1 ⟨lv,nv,av,h1⟩
 have bad:∀(W:World),qq w1 W →
   stOk W B 0 38 MsgV.zero.cells.toArray=true∧MsB (W.setCells B 0 MsgV.zero.cells) B MsgV.zero∧ChS (W.setCells B 0 MsgV.zero.cells) g (Fr S w (W.setCells B 0 MsgV.zero.cells)) c∧Upd S w (W.setCells B 0 MsgV.zero.cells):=by
  intro W nW
  have Z:=V.new nW
  have u:=zc (w:=W) (b:=B) MsgV.zero.cells
  exact⟨Z.stOk qm,Z.put qm,ChS.frW (w1:=w) ⟨lv,nv,av,((h1.new nW).upd u (fun k J e=>by rw[e] at J;exact q J))⟩,((n1.trans nW).mono (T:=S) (fun _ _ h=>h.elim)).then u (fun i C e=>by omega)⟩
 have v:=qb bad
 have HB:=qb V
 have HI:=qb h.inL
 have H1:=qb h1
 have b4:=qb h.lt
 have N1:=qb n1
 clear h h1 V n1 bad
 go_wp2_with fail
 refine Z.mono ?_
 rintro e w2 ⟨rfl,L⟩
 clear Z
 cases F:qde false id c.xs with
 | none =>
  have C:=qhv F;obtain⟨K,f,z,Y⟩:=qa v w2 L;have N:=qb (q0p (r:=r) F);have O:=qb f;have M:=qb z;have P:=qb Y;rw[C];clear f z Y L F C;go_wp2_with (with_reducible first|(first|refine' tw1 (qh ?_) ?_|refine' tw2 (qh ?_) ?_);rotate_left|refine' tw3 (qh ?_)|rfl|apply tn|refine' tw4 ?_);have f:=qa O;refine bodyPost_ret (qy rfl _ _ B _ _ _ _ rfl f.at_ Tryz.underlying101 rfl (by rw[f.agg];exact Tryz.infoMsg)) rfl ?_;rw[qa N];exact⟨rfl,qa M,qa P⟩
 | some pr =>
  obtain⟨i,x⟩:=pr;obtain⟨C,I,-⟩:=qhw F;have h2:=(qa H1).new L;rw[C];by_cases R:r<0∨65535<r
  ·obtain⟨K,f,z,Y⟩:=qa v w2 L;have N:=qb (q43 F R);have O:=qb f;have M:=qb z;have P:=qb Y;clear f z Y L F C I h2;rcases R with R | R
   ·go_wp2_with (with_reducible first|(first|refine' tw1 (qh ?_) ?_|refine' tw2 (qh ?_) ?_);rotate_left|refine' tw3 (qh ?_)|rfl|apply tn|refine' tw4 ?_);have f:=qa O;refine bodyPost_ret (qy rfl _ _ B _ _ _ _ rfl f.at_ Tryz.underlying101 rfl (by rw[f.agg];exact Tryz.infoMsg)) rfl ?_;rw[qa N];exact⟨rfl,qa M,qa P⟩
   ·have a8:¬r<0:=by omega
    go_wp2_with (with_reducible first|(first|refine' tw1 (qh ?_) ?_|refine' tw2 (qh ?_) ?_);rotate_left|refine' tw3 (qh ?_)|rfl|apply tn|refine' tw4 ?_);have f:=qa O;refine bodyPost_ret (qy rfl _ _ B _ _ _ _ rfl f.at_ Tryz.underlying101 rfl (by rw[f.agg];exact Tryz.infoMsg)) rfl ?_;rw[qa N];exact⟨rfl,qa M,qa P⟩
  ·have a7:=qh9 g S c lv nv av i x false w2 h2 I;have N:=qb (qqb F R);have a8:¬r<0:=by omega
   have b7:¬65535<r:=by omega
   have N2:=qb L;clear L F C I h2 R;go_wp2_with fail;refine a7.mono ?_;rintro e w3 ⟨rfl,h3,u3⟩;have E:=fun W (hW:ChS W g S (c.removed i x false))=>qnx g S (c.removed i x false) (qgl id r) qm W hW a6
   have m:=E w3 ⟨lv,nv,av,h3⟩;have U3:=qb ((((qa N1).trans (qa N2)).mono (T:=S) (fun _ _ h=>h.elim)).trans (u3.mono (T:=S) (fun k _ e=>qa HI k e)));have U:=qb (((qa HB).new (qa N2)).upd u3 (fun e=>q (qa HI B e)));clear a7 h3 u3 E;unfold qgl at m;go_wp2_with (with_reducible first|(first|refine' tw1 (qh ?_) ?_|refine' tw2 (qh ?_) ?_);rotate_left|refine' tw3 (qh ?_)|rfl|apply tn|refine' tw4 ?_);refine m.mono ?_;rintro e w4 ⟨rfl,h4,u4⟩;have hl:((qgl id r).on (c.removed i x false).s.ch).hash.length=32:=qm;have H:=(qa U).upd u4 q;have K:=H.stOk hl;have f:=H.put hl;have u5:=zc (w:=w4) (b:=B) ((qgl id r).on (c.removed i x false).s.ch).cells;have O:=qb f;have b3:=(qa U3).size;have z:=h4.upd u5 (fun k J e=>by
    rcases J with J | J
    ·exact q (e▸J)
    ·have:=(qa U).lt;omega)
   have M:=qb ((z.grow u5.size).later b3);have P:=qb (((qa U3).trans u4).then u5 (fun i C e=>by omega));change stOk w4 B 0 38 ((⟨5,0,id,0,zg,0,r⟩:MsgV).on (c.removed i x false).s.ch).cells.toArray=true at K;clear m h4 u4 H f u5 z hl;go_wp2_with (with_reducible first|(first|refine' tw1 (qh ?_) ?_|refine' tw2 (qh ?_) ?_);rotate_left|refine' tw3 (qh ?_)|rfl|apply tn|refine' tw4 ?_);have f:=qa O;refine bodyPost_ret (qy rfl _ _ B _ _ _ _ rfl f.at_ Tryz.underlying101 rfl (by rw[f.agg];exact Tryz.infoMsg)) rfl ?_;rw[qa N];exact⟨rfl,qa M,qa P⟩
end
section
open Go.RowKit
attribute [local go_sem ↓ high] zl qag qaj qar qml
attribute [local go_sem] qbl qcl qcn qdm qx
def ofI(p:List Int):List Int:=qen (strOfNums p)
def qeh(p h:List Int):Bool:=ofI p==h
theorem qyb(p:List Int)(H:p.length=32)(w:World)(P:Tabs w) :
  Calls Tryz.prog 130 #[.agg (qu p).toArray] w (qa7 (.agg (qu (ofI p)).toArray) w):=by
 have F:(ofI p).length=32:=qb9 _
 go_enter Tryz.func130,Tryz.ntmps130
 go_upto_region 1 with fail
 have C:=(qb7 w p H).new ((Upd.refl _ _).alloc (.cells (qu zg).toArray 35))
 have v:=qb7 (w.alloc (.cells (qu p).toArray 35)) zg qm
 rw[World.size_alloc] at v
 have E:qq w ((w.alloc (.cells (qu p).toArray 35)).alloc (.cells (qu zg).toArray 35)):=((Upd.refl _ _).alloc _).alloc _
 generalize (w.alloc (.cells (qu p).toArray 35)).alloc (.cells (qu zg).toArray 35)=w1 at C v E ⊢
 obtain⟨A,r⟩:∃A,A=w.heap.size:=⟨_,rfl⟩
 obtain⟨B,z⟩:∃B,B=w.heap.size+1:=⟨_,rfl⟩
 rw[←z] at v ⊢
 rw[←r] at C ⊢
 have N:w.heap.size≤B:=by omega
 clear r z
 have q:(convert 95 9 (.slice (some ⟨A,0,none⟩) 32 32)).run Tryz.prog w1 = .ok (.string (strOfNums p)) w1 :=
  qda w1 _ _ _ Tryz.underlying95 Tryz.underlying5 Tryz.underlying9 A 32 _ _ _ 32 H C.at_
 have f:Calls Tryz.prog 164 #[.string (strOfNums p)] w1 (fun e w'=>e = .returned (.agg (qu (ofI p)).toArray)∧qq w1 w'):=qgq (strOfNums p) w1 (by rw[strOfNums_size,H];omega) (P.new E)
 have J:=qb v
 clear C v
 generalize ofI p=K at *
 go_wp2_with fail
 refine f.mono ?_
 rintro e S ⟨rfl,I⟩
 have m:=(qa J).new I
 have R:=m.stOk K F
 have L:=qb (m.put K F)
 have M:=qb ((E.trans I).then (zc (w:=S) (b:=B) (qu K)) (fun i T e=>by omega))
 clear m E I f q
 go_wp2_with fail
 have O:=qa L
 exact bodyPost_ret (results_cell_row rfl _ _ B _ _ _ _ rfl O.at_ Tryz.underlying35 rfl (by rw[List.size_toArray,qal,F];exact Tryz.infoHsh)) rfl ⟨rfl,qa M⟩
theorem qqy(p h:List Int)(I:p.length=32)(F:h.length=32)(S:qbm h)(w:World)(P:Tabs w) :
  Calls Tryz.prog 99 #[.agg (qu p).toArray,.agg (qu h).toArray] w (qa7 (.bool (qeh p h)) w):=by
 have U:(ofI p).length=32:=qb9 _
 have C:qbm (ofI p):=qgc _
 go_enter Tryz.func99,Tryz.ntmps99
 go_upto_region 1 with fail
 have v:=(qb7 w p I).new ((Upd.refl _ _).alloc (.cells (qu h).toArray 35))
 have i:=qb7 (w.alloc (.cells (qu p).toArray 35)) h F
 rw[World.size_alloc] at i
 have z:qq w ((w.alloc (.cells (qu p).toArray 35)).alloc (.cells (qu h).toArray 35)):=((Upd.refl _ _).alloc _).alloc _
 generalize (w.alloc (.cells (qu p).toArray 35)).alloc (.cells (qu h).toArray 35)=w1 at v i z ⊢
 obtain⟨A,m⟩:∃A,A=w.heap.size:=⟨_,rfl⟩
 obtain⟨B,q⟩:∃B,B=w.heap.size+1:=⟨_,rfl⟩
 rw[←q] at i ⊢
 rw[←m] at v ⊢
 clear m q
 have T:=fun W=>qwn U F C S W
 have r:=fun W (R:Tabs W)=>qyb p I W R
 have H:qeh p h=(ofI p==h):=rfl
 have O:=qb H
 clear H
 generalize ofI p=K at *
 have V:zf w1.drew A 0 32=some (qu p).toArray:=v.row
 have L:zf w1.drew B 0 32=some (qu h).toArray:=i.row
 have M:=qb i
 refine qa1 (fun w'=>zf w' B 0 32=some (qu h).toArray) [2] (.of [0,1,2,3,4]) (by kernel_rfl) (by kernel_rfl) L ?_
 simp only[Plan.of]
 clear v i
 go_wp2_with (with_reducible first|(first|refine' zv (qh ?_) ?_|refine' zx (qh ?_) ?_|refine' zy (qh ?_) ?_);rotate_left|refine' zz (qh ?_)|refine' qw5 (qh ?_)|rfl|apply qn)
 refine(r w1.drew (P.new (z.drew))).mono ?_
 rintro e X ⟨rfl,J⟩
 have f:qq w1 X:=J.ofDrew
 have E:=((qa M).new f).row
 have N:=qb (z.trans f)
 clear r V L J f z
 go_wp2_with (with_reducible first|(first|refine' zv (qh ?_) ?_|refine' zx (qh ?_) ?_|refine' zy (qh ?_) ?_);rotate_left|refine' zz (qh ?_)|refine' qw5 (qh ?_)|rfl|apply qn)
 refine⟨E,?_⟩
 go_wp2_with (with_reducible first|(first|refine' zv (qh ?_) ?_|refine' zx (qh ?_) ?_|refine' zy (qh ?_) ?_);rotate_left|refine' zz (qh ?_)|refine' qw5 (qh ?_)|rfl|apply qn)
 go_ret
 exact⟨by rw[qa O];rfl,qa N⟩
end
end Go.Proofs.YtfmkdoachjgjbaaGreatDoor
