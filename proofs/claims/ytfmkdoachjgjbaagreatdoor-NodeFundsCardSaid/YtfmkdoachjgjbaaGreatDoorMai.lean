/-
  shut, Shut, Offer.
-/
import Derived.Test.YtfmkdoachjgjbaaGreatDoorMah
import Derived.Test.YtfmkdoachjgjbaaGreatDoorMae
import Derived.Test.YtfmkdoachjgjbaaGreatDoorTxt
import Derived.Test.YtfmkdoachjgjbaaGreatDoorMag
import Derived.Lib.Builder
import Derived.Lib.AppendStr
set_option maxRecDepth 100000
set_option maxHeartbeats 2000000
set_option linter.unusedVariables false
set_option linter.unusedSimpArgs false
namespace Go.Proofs.YtfmkdoachjgjbaaGreatDoor
section
open Go.RowKit
theorem Tryz.infoHsh:(Tryz.prog.info? 35).map (·.size)=some 32:=by kernel_rfl
def q8v(x:Value):Sem Value:=Instr.loadAt 35 x
theorem zl(x:Value):Instr.loadAt 35 x=q8v x:=rfl
theorem qa9(b o:Nat)(w:World):(q8v (.pointer (some ⟨b,o,none⟩))).run Tryz.prog w=match zt w b o 32 with | some A=> .ok (.agg A) w | none=>qc3 Tryz.prog 35 w b o :=
 qag 35 32 _ Tryz.underlying35 rfl Tryz.infoHsh b o w
def q86(x v:Value):Sem Unit:=Instr.storeAt 35 x v
theorem qaf(x v:Value):Instr.storeAt 35 x v=q86 x v:=rfl
theorem qb3(b o:Nat)(A:Array Value)(w:World):(q86 (.pointer (some ⟨b,o,none⟩)) (.agg A)).run Tryz.prog w=if stOk w b o 32 A=true then .ok () (w.setCells b o A.toList) else qes Tryz.prog 35 w b o A :=
 qaz 35 32 Tryz.infoHsh b o A w
theorem Tryz.infoHtl:(Tryz.prog.info? 41).map (·.size)=some 35:=by kernel_rfl
def q8w(x:Value):Sem Value:=Instr.loadAt 41 x
theorem qds(x:Value):Instr.loadAt 41 x=q8w x:=rfl
theorem qkk(b o:Nat)(w:World):(q8w (.pointer (some ⟨b,o,none⟩))).run Tryz.prog w=match zt w b o 35 with | some A=> .ok (.agg A) w | none=>qc3 Tryz.prog 41 w b o :=
 qag 41 35 _ Tryz.underlying41 rfl Tryz.infoHtl b o w
def q87(x v:Value):Sem Unit:=Instr.storeAt 41 x v
theorem qls(x v:Value):Instr.storeAt 41 x v=q87 x v:=rfl
theorem q5u(b o:Nat)(A:Array Value)(w:World):(q87 (.pointer (some ⟨b,o,none⟩)) (.agg A)).run Tryz.prog w=if stOk w b o 35 A=true then .ok () (w.setCells b o A.toList) else qes Tryz.prog 41 w b o A :=
 qaz 41 35 Tryz.infoHtl b o A w
def q8j:Sem Value:=Instr.alloc 41 true (.tuple #[])
theorem qk0:Instr.alloc 41 true (.tuple #[])=q8j:=rfl
theorem q2a(w:World):q8j.run Tryz.prog w = .ok (.pointer (some ⟨w.heap.size,0,none⟩)) (w.alloc (.cells (qv Htlc.zero).toArray 41)):=by kernel_rfl
attribute [local go_sem ↓ high] ze zf zg zj zl
attribute [local go_sem] qau qav qaw zz qk8 qy qa9
theorem qql(g:Nat)(c:ChanV)(w:World)(h:ChR w g c) :
  Calls Tryz.prog 117 #[.pointer (some ⟨g,0,none⟩)] w (qar (.agg (MsgV.cells ⟨8,c.setup.ch,0,0,zm,0,0⟩).toArray) w):=by
 go_enter Tryz.func117,Tryz.ntmps117
 go_upto_region 1 with fail
 have t:(w.alloc (.cells MsgV.zero.cells.toArray 101)).heap[w.heap.size]? = some (.cells MsgV.zero.cells.toArray 101 (0,0)):=ql _ _
 have n0:qq w (w.alloc (.cells MsgV.zero.cells.toArray 101)):=(Upd.refl _ _).alloc _
 generalize w.alloc (.cells MsgV.zero.cells.toArray 101)=w1 at t n0 ⊢
 have z:=(h.new n0).ch
 obtain⟨B,q⟩:∃B,B=w.heap.size:=⟨_,rfl⟩
 have C:w.heap.size≤B:=by omega
 rw[←q] at t ⊢
 clear q
 have y:=qfd (m:=⟨8,c.setup.ch,0,0,zm,0,0⟩) t qu
 have o:=qe9 (m:=⟨8,c.setup.ch,0,0,zm,0,0⟩) t qu
 have v:=qj o
 have u:Upd (· = B) w1 (w1.setCells B 0 (MsgV.cells ⟨8,c.setup.ch,0,0,zm,0,0⟩)):=(Upd.refl _ _).setCells 0 _
 have x:=qj (n0.then u (fun i D e=>by omega))
 clear h t o n0 u
 go_wp2_with ((with_reducible first|rfl|refine' ut ?_ ?_;rotate_left|refine' uu ?_)<;>intros)
 refine bodyPost_ret (results_cell_row rfl _ _ B _ _ _ _ rfl (qg v) Tryz.underlying101 rfl (by rw[List.size_toArray,MsgV.len _ qu];exact Tryz.infoMsg)) rfl ?_
 exact⟨rfl,qg x⟩
def Ch.shutSaid(c:Ch):Ch:= {c with k:= {c.k with shutSaid:=true}}
theorem Ch.Ok.shutSaid{c:Ch}(h:c.Ok):c.shutSaid.Ok:=⟨h.s,h.signed,h.heard,h.nextOwn,h.nextTheirs,h.loc,h.rem,h.xs,h.few,h.shelf,h.news,h.last,h.many⟩
def qbo(ch:Int):MsgV:=⟨8,ch,0,0,zm,0,0⟩
def Ch.shut(c:Ch):Ch × MsgV × Int:=if c.k.shutSaid then (c,MsgV.zero,4) else (c.shutSaid,qbo c.s.ch,0)
theorem q5n(g:Nat)(S:Nat→Prop)(c:Ch)(w:World)(h:ChS w g S c) :
  Calls Tryz.prog 74 #[.pointer (some ⟨g,0,none⟩)] w fun e w'=>e = .returned (.tuple #[.agg c.shut.2.1.cells.toArray,.int .i64 c.shut.2.2])∧ChS w' g (Fr S w w') c.shut.1∧Upd S w w':=by
 obtain⟨lv,nv,av,h⟩:=h
 go_enter Tryz.func74,Tryz.ntmps74
 go_upto_region 1 with fail
 have z:(w.alloc (.cells MsgV.zero.cells.toArray 101)).heap[w.heap.size]? = some (.cells MsgV.zero.cells.toArray 101 (0,0)):=ql _ _
 have n0:qq w (w.alloc (.cells MsgV.zero.cells.toArray 101)):=(Upd.refl _ _).alloc _
 generalize w.alloc (.cells MsgV.zero.cells.toArray 101)=w1 at z n0 ⊢
 have t:=h.new n0
 obtain⟨B,E⟩:∃B,B=w.heap.size:=⟨_,rfl⟩
 have hB:w.heap.size≤B:=by omega
 rw[←E] at z ⊢
 clear E
 have R:g≠B:=by have:=h.lt g h.inG;omega
 have y:w1.cell? ⟨g,42,none⟩=some (.bool c.k.shutSaid):=t.toR.shutSaid
 have O:w1.frozen? ⟨g,42,none⟩=false:=qo t.at_ 42
 cases I:c.k.shutSaid with
 | true =>
  rw[I] at y;have e:c.shut=(c,MsgV.zero,4):=by unfold Ch.shut;rw[if_pos I]
  have U:=qfd (m:=MsgV.zero) z qu;have o:=qe9 (m:=MsgV.zero) z qu;have M:=qj o;have u:Upd (· = B) w1 (w1.setCells B 0 MsgV.zero.cells):=(Upd.refl _ _).setCells 0 _;have HU:=qj u;have N:=qj (n0.then u (fun i hi e=>by omega));have H1:=qj t;have K:=qj e;have HL:=qj h.lt;clear h t z o n0 u e;go_wp2_with ((with_reducible first|rfl|refine' ut ?_ ?_;rotate_left|refine' uu ?_)<;>intros);refine bodyPost_ret (zb rfl _ _ B _ _ _ _ rfl (qg M) Tryz.underlying101 rfl (by rw[List.size_toArray,MsgV.len _ qu];exact Tryz.infoMsg)) rfl ?_;rw[qg K];exact⟨rfl,((qg H1).upd (qg HU) (fun k T e=>by have:=qg HL k T;omega)).fr w,(qg N).mono (fun _ _ h=>h.elim)⟩
 | false =>
  rw[I] at y;have e:c.shut=(c.shutSaid,qbo c.s.ch,0):=by unfold Ch.shut;rw[if_neg (by rw[I];decide)]
  have P:=t.put (i:=42) (x:= .bool true) (c':=c.shutSaid) (qsl c lv nv av t.ok.s.seed true) t.ok.shutSaid rfl rfl rfl;have W:Upd (· = g) w1 (w1.setCell ⟨g,42,none⟩ (.bool true)):=(Upd.refl _ _).set1 42 _;have C:=W.old z (fun e=>R e.symm);have K:=qj e;have H:=qj h;have D:Calls Tryz.prog 117 #[.pointer (some ⟨g,0,none⟩)] (w1.setCell ⟨g,42,none⟩ (.bool true)) (qar (.agg (qbo c.s.ch).cells.toArray) (w1.setCell ⟨g,42,none⟩ (.bool true))):=qql g (c.shutSaid.v lv nv av) _ P.toR;have Z:=qj P;have V:Upd S w (w1.setCell ⟨g,42,none⟩ (.bool true)):=(n0.mono (fun _ _ h=>h.elim)).trans (W.mono (fun k _ e=>by rw[e];exact h.inG));clear h t z n0 W e P;go_upto_region 4 with ((with_reducible first|rfl|refine' ut ?_ ?_;rotate_left|refine' uu ?_)<;>intros);clear y O;generalize w1.setCell ⟨g,42,none⟩ (.bool true)=w2 at C D Z V ⊢;go_wp2_with ((with_reducible first|rfl|refine' ut ?_ ?_;rotate_left|refine' uu ?_)<;>intros);refine D.mono ?_;rintro e Y ⟨rfl,J⟩;have q:=J.old C (fun h=>h);change Y.heap[B]? = _ at q;have U:=qfd (m:=qbo c.s.ch) q qu;have o:=qe9 (m:=qbo c.s.ch) q qu;have X:Upd (· = B) Y (Y.setCells B 0 (qbo c.s.ch).cells):=(Upd.refl _ _).setCells 0 _;have M:=qj o;have H4:=qj (((qg Z).new J).upd X (fun k T e=>by have:=(qg H).lt k T;omega));have N:=qj ((V.trans (J.mono (fun _ _ h=>h.elim))).then X (fun i hi e=>by omega));clear q C o X D J V;go_wp2_with ((with_reducible first|rfl|refine' ut ?_ ?_;rotate_left|refine' uu ?_)<;>intros);refine bodyPost_ret (zb rfl _ _ B _ _ _ _ rfl (qg M) Tryz.underlying101 rfl (by rw[List.size_toArray,MsgV.len _ qu];exact Tryz.infoMsg)) rfl ?_
  rw[qg K];exact⟨rfl,(qg H4).fr w,qg N⟩
end
section
open Go.RowKit
def qw(h:List Int):List Value:=h.map (Value.int .u8)
theorem qal(h:List Int):(qw h).length=h.length:=by simp[qw]
theorem qnl(h:List Int):∀v∈qw h,v.oneCell'=true:=by
 intro v i;obtain⟨x,_,rfl⟩:=List.mem_map.1 i;rfl
def q8i:Sem Value:=Instr.alloc 35 true (.tuple #[])
theorem qah:Instr.alloc 35 true (.tuple #[])=q8i:=rfl
theorem qb7(w:World):q8i.run Tryz.prog w = .ok (.pointer (some ⟨w.heap.size,0,none⟩)) (w.alloc (.cells (qw zm).toArray 35)):=by kernel_rfl
def q2h(p:Array (Nat × Value)):Sem Value:=Instr.build 35 p
theorem qa1(p:Array (Nat × Value)):Instr.build 35 p=q2h p:=rfl
theorem qdp(w:World):(q2h #[]).run Tryz.prog w = .ok (.agg (qw zm).toArray) w:=run_build w _ _ _ (by kernel_rfl)
structure HsB(w:World)(b:Nat)(h:List Int):Prop where
 at_:w.heap[b]? = some (.cells (qw h).toArray 35 (0,0))
 len:h.length=32
theorem HsB.upd{S:Nat→Prop}{w w':World}{b:Nat}{h:List Int}(a:HsB w b h)(u:Upd S w w')(n:¬S b):HsB w' b h:=⟨u.old a.at_ n,a.len⟩
theorem HsB.new{w w':World}{b:Nat}{h:List Int}(a:HsB w b h)(u:qq w w'):HsB w' b h:=a.upd u (fun h=>h)
theorem HsB.row{w:World}{b:Nat}{h:List Int}(a:HsB w b h):zt w b 0 32=some (qw h).toArray:=qaj a.at_ 32 (by rw[List.size_toArray,qal,a.len])
theorem HsB.stOk{w:World}{b:Nat}{h:List Int}(a:HsB w b h)(k:List Int)(i:k.length=32):stOk w b 0 32 (qw k).toArray=true:=by
 have:=qdk a.at_ (A:=qw k) (by rw[List.size_toArray,qal,qal,a.len,i]) (qnl k);rwa [List.size_toArray,qal,a.len] at this
theorem HsB.put{w:World}{b:Nat}{h:List Int}(a:HsB w b h)(k:List Int)(i:k.length=32):HsB (w.setCells b 0 (qw k)) b k:=by
 refine⟨?_,i⟩;rw[qax a.at_ 0 _,qb5 _ _ (by rw[List.size_toArray,qal,qal,a.len,i])]
theorem HsB.lt{w:World}{b:Nat}{h:List Int}(a:HsB w b h):b<w.heap.size:=zi a.at_
theorem qcr(w:World)(h:List Int)(i:h.length=32):HsB (w.alloc (.cells (qw h).toArray 35)) w.heap.size h:=⟨ql _ _,i⟩
theorem zy{w:World}{b:Nat}(l:List Value):Upd (· = b) w (w.setCells b 0 l):=(Upd.refl _ _).setCells 0 l
def qhh(w:World)(k:List Int):World:=(w.alloc (.cells (qw zm).toArray 35)).setCells w.heap.size 0 (qw k)
theorem qf7(w:World)(k:List Int)(o:k.length=32):stOk (w.alloc (.cells (qw zm).toArray 35)) w.heap.size 0 32 (qw k).toArray=true∧HsB (qhh w k) w.heap.size k∧qq w (qhh w k):=by
 have m:=qcr w zm qu;exact⟨m.stOk k o,m.put k o,(((Upd.refl (fun _=>False) w).alloc _)).then (zy _) (fun i q e=>by omega)⟩
attribute [local go_sem ↓ high] zl qaf qah
attribute [local go_sem] qa9 qb3 qb7 qy
def qxk(s:ByteArray):ByteArray:=strOfNums ((qeq s).take 4)
theorem qqo(s:ByteArray):(qxk s).size=4:=by
 unfold qxk;rw[strOfNums_size,List.length_take,qb9];rfl
theorem q4c(s:ByteArray)(w:World)(K:s.size≤1000000000)(H:Tabs w) :
  Calls Tryz.prog 162 #[.string s] w (qar (.string (qxk s)) w):=by
 have m:Calls Tryz.prog 164 #[.string s] w fun e w'=>e = .returned (.agg (qw (qeq s)).toArray)∧qq w w':=qft s w K H
 have J:=qb9 s
 unfold qxk
 generalize qeq s=h at *
 go_enter Tryz.func162,Tryz.ntmps162
 go_wp2_with fail
 refine m.mono ?_
 rintro e w1 ⟨rfl,D⟩
 obtain⟨o,x,E⟩:=qf7 w1 h J
 have C:=qj (D.trans E)
 clear m D E
 go_upto_region 2 with fail
 change Code.wp _ _ _ _ (qhh w1 h)
 generalize qhh w1 h=z at x C ⊢
 generalize w1.heap.size=B at x ⊢
 clear o
 have o:(convert 95 9 (.slice (some ⟨B,0,none⟩) 4 32)).run Tryz.prog z = .ok (.string (strOfNums (h.take 4))) z:=by
  refine run_convert_bytes_arg z 95 5 Tryz.underlying95 Tryz.underlying5 B 0 4 32 (h.take 4) (by rw[List.length_take];omega) (fun i I=> ?_) 9 Tryz.underlying9;have t:i<h.length:=by omega
  rw[Nat.zero_add,qk x.at_ i,List.getElem?_toArray];unfold qw;rw[List.getElem?_map,List.getElem?_eq_getElem t];simp[List.getD,List.getElem?_eq_getElem t,List.getElem?_take,I]
 generalize v:strOfNums (h.take 4)=q at o
 have y:=qj v
 clear x v
 go_wp2_with fail
 go_ret
 exact⟨by rw[qg y];rfl,qg C⟩
end
section
open Go.RowKit
theorem qsb{fn:Func}{t u v x:Tmp}(h:fn.results=#[.tmp t,.tmp u,.tmp v,.tmp x])(tmps:Array Value)(P:Program)(w:World) :
  (results fn tmps).run P w = .ok (.tuple #[tmps.getD t undef,tmps.getD u undef,tmps.getD v undef,tmps.getD x undef]) w:=by
 simp[results,h]
theorem q7e(w:World):Calls Tryz.prog 124 #[.string ⟨#[]⟩] w (qae (.tuple #[.int .u64 0,.string ⟨#[]⟩,.int .i64 0,.int .i64 3]) w):=by
 go_enter Tryz.func124,Tryz.ntmps124;go_wp2_with fail;refine bodyPost_ret (qsb rfl _ _ _) rfl ?_;exact⟨rfl,Q.refl _⟩
structure JourV where
 addr:Value
 buf:Value
 many:Int
 fused:Bool
 fuse:Int
 off:Bool
def JourV.cells(j:JourV):List Value:=[j.addr,j.buf,.int .i64 j.many,.bool j.fused,.int .i64 j.fuse,.bool j.off]
def JourV.new:JourV:=⟨.pointer none,qcb,0,false,0,false⟩
def JoR(w:World)(g:Nat)(j:JourV):Prop:=w.heap[g]? = some (.cells j.cells.toArray 213 (0,0))
theorem qur(w:World):Calls Tryz.prog 86 #[.string ⟨#[]⟩] w fun e w'=>∃g,e = .returned (.tuple #[.pointer (some ⟨g,0,none⟩),qcb])∧w.heap.size≤g∧JoR w' g .new∧qq w w':=by
 go_enter Tryz.func86,Tryz.ntmps86;go_wp2_with fail;have i:JoR (w.alloc (.cells #[.pointer none,.slice none 0 0,.int .i64 0,.bool false,.int .i64 0,.bool false] 213)) w.heap.size .new:=ql _ _;have n0:qq w (w.alloc (.cells #[.pointer none,.slice none 0 0,.int .i64 0,.bool false,.int .i64 0,.bool false] 213)):=(Upd.refl _ _).alloc _;generalize w.alloc _=w1 at i n0 ⊢
 go_loopw [0,5] (fun v q wr=>v = .string ⟨#[]⟩∧q = .slice none 0 0∧wr=w1) (fun _ _ _=>0)
 case atStart=>exact⟨rfl,rfl,rfl⟩
 case round =>
  obtain⟨rfl,rfl,rfl⟩:=hrel;go_wp2_with fail;refine(q7e _).mono ?_;rintro e x ⟨rfl,o⟩;have m:JoR x w.heap.size .new:=o.old i;have t:=n0.trans (o.upd _);clear o i n0;go_wp2_with fail;go_ret2;exact⟨_,rfl,Nat.le_refl _,m,t⟩
theorem qmb(a b:ByteArray):Lib.strCells (a++b)=Lib.strCells a++Lib.strCells b:=by
 unfold Lib.strCells;rw[ByteArray.data_append,Array.toList_append,List.map_append]
structure Jo where
 bs:ByteArray
 many:Int
 fused:Bool
 fuse:Int
 off:Bool
def Jo.v(j:Jo)(p buf:Value):JourV:=⟨p,buf,j.many,j.fused,j.fuse,j.off⟩
def Jo.new:Jo:=⟨⟨#[]⟩,0,false,0,false⟩
structure JoP(w:World)(g:Nat)(S:Nat→Prop)(j:Jo)(p buf:Value):Prop where
 at_:JoR w g (j.v p buf)
 addr:p = .pointer none∨p = .pointer (some ⟨g,0,none⟩)
 row:w.ownsRow 0 5 1 buf j.bs.size (Lib.strCells j.bs)
 inG:S g
 inB:∀k,buf.ownBlock=some k→S k
 lt:∀k,S k→k<w.heap.size
def JoS(w:World)(g:Nat)(S:Nat→Prop)(j:Jo):Prop:=∃p buf,JoP w g S j p buf
section
variable {w w':World}{g:Nat}{S T:Nat→Prop}{j:Jo}{p buf:Value}
theorem JoP.upd(h:JoP w g S j p buf)(u:Upd T w w')(hd:∀k,S k→¬T k):JoP w' g S j p buf :=
 ⟨u.old h.at_ (hd g h.inG),h.addr,zc h.row u (fun k i=>hd k (h.inB k i)),h.inG,h.inB,fun k i=>Nat.lt_of_lt_of_le (h.lt k i) u.size⟩
theorem JoS.upd(h:JoS w g S j)(u:Upd T w w')(hd:∀k,S k→¬T k):JoS w' g S j:=by
 obtain⟨a,b,h⟩:=h;exact⟨a,b,h.upd u hd⟩
theorem JoS.new(h:JoS w g S j)(u:qq w w'):JoS w' g S j:=h.upd u (fun _ _ h=>h)
theorem JoS.lt(h:JoS w g S j):∀k,S k→k<w.heap.size:=by
 obtain⟨a,b,h⟩:=h;exact h.lt
theorem JoP.wider(h:JoP w g S j p buf)(i:∀k,S k→T k)(m:∀k,T k→k<w.heap.size):JoP w g T j p buf :=
 ⟨h.at_,h.addr,h.row,i g h.inG,fun k e=>i k (h.inB k e),m⟩
theorem JoP.fr(h:JoP w' g S j p buf)(w:World):JoS w' g (Fr S w w') j:=⟨_,_,h.wider (fun k i=> .inl i) (fun k i=>i.elim (h.lt k) (fun e=>e.2))⟩
end
theorem JoS.fresh{w:World}{g:Nat}(h:JoR w g .new):JoS w g (· = g) .new :=
 ⟨_,_,h,.inl rfl,⟨rfl,.inl ⟨rfl,rfl⟩⟩,rfl,fun k e=>by simp[qcb,Value.ownBlock] at e,fun k e=>e▸zi h⟩
theorem Tryz.sizeBu:(Tryz.prog.info? 211).map (·.size)=some 2:=by kernel_rfl
theorem qm9(g:Nat)(w:World)(o:w.cell? ⟨g,0,none⟩=some (.pointer (some ⟨g,0,none⟩))) :
  Calls Tryz.prog 163 #[.pointer (some ⟨g,0,none⟩)] w fun e w'=>e = .returned (.tuple #[])∧w=w':=by
 obtain⟨j,m,_⟩:=Option.map_eq_some_iff.1 Tryz.sizeBu
 have i:=fun w':World=>Lib.run_neq_ptr_same (P:=Tryz.prog) w' (tp:=209) ⟨g,0,none⟩ Tryz.underlying209 m
 go_enter Tryz.func163,Tryz.ntmps163
 go_wp2_with fail
 go_end0
 exact⟨rfl,rfl⟩
theorem ql5(g:Nat)(w:World)(x:w.cell? ⟨g,0,none⟩=some (.pointer none))(i:w.shape? g=some (213,6))(t:w.frozen? ⟨g,0,none⟩=false) :
  Calls Tryz.prog 163 #[.pointer (some ⟨g,0,none⟩)] w fun e w'=>e = .returned (.tuple #[])∧w'=w.setCell ⟨g,0,none⟩ (.pointer (some ⟨g,0,none⟩)):=by
 obtain⟨j,q,o⟩:=Option.map_eq_some_iff.1 Tryz.sizeBu
 have v:=Lib.run_to_unsafe (P:=Tryz.prog) w (src:=209) (dst:=292) ⟨g,0,none⟩ Tryz.underlying209 Tryz.underlying292 q (by rw[o];decide) i (by show (0:Nat)<6;decide)
 have m:=Lib.run_from_unsafe (P:=Tryz.prog) w (src:=292) (dst:=209) ⟨g,0,none⟩ Tryz.underlying292 Tryz.underlying209 q i (by kernel_rfl)
 go_enter Tryz.func163,Tryz.ntmps163
 go_wp2_with fail
 rw[run_callFunc_extern Tryz.func195 (by kernel_rfl) (by kernel_rfl) (by kernel_rfl) (e:=Extern.AbiNoEscape.same) (by kernel_rfl)]
 rw[Lib.run_noEscape]
 simp only[Result.andThen]
 rw[Oper.upon_value]
 go_wp2_with fail
 go_end0
 exact⟨rfl,rfl⟩
theorem qow(g:Nat)(S:Nat→Prop)(j:Jo)(p buf:Value)(w:World)(h:JoP w g S j p buf) :
  Calls Tryz.prog 163 #[.pointer (some ⟨g,0,none⟩)] w fun e w'=>e = .returned (.tuple #[])∧Upd (· = g) w w'∧JoP w' g S j (.pointer (some ⟨g,0,none⟩)) buf:=by
 rcases h.addr with rfl | rfl
 ·refine(ql5 g w (qk h.at_ 0) ?_ (qo h.at_ 0)).mono ?_
  ·have:=h.at_;unfold JoR at this;simp[World.shape?,this,JourV.cells]
  ·rintro e w' ⟨rfl,rfl⟩;have u:Upd (· = g) w (w.setCell ⟨g,0,none⟩ (.pointer (some ⟨g,0,none⟩))):=(Upd.refl _ _).set1 _ _;refine⟨rfl,u,?_,.inr rfl,zc h.row u ?_,h.inG,h.inB,fun k i=>Nat.lt_of_lt_of_le (h.lt k i) u.size⟩
   ·exact zq h.at_ 0 _
   ·intro k i e;obtain⟨m,o⟩:=zv h.row k i;exact zx o h.at_ (by decide) e
 ·refine(qm9 g w (qk h.at_ 0)).mono ?_;rintro e w' ⟨rfl,rfl⟩;exact⟨rfl,Upd.refl _ _,h⟩
theorem qvd{I:Array Oper}{rest:List Oper}{o:Oper}{a:Act}{Q:Exit→Act→World→Prop}(U:o.guard=none)(W x:Operand)
  (ho:o.op = .call {callee:= .builtin .append,args:=#[W,x],argTypes:=#[95,9]})
  (v:Value) (n:Nat) (xs:List Value) (w:World) (hs:a.eval W=v) (m:w.ownsRow 0 5 1 v n xs) (s:ByteArray) (hx:a.eval x = .string s) (hb:n+s.size≤140737488355328)
  (h:∀t w',w'.ownsRow 0 5 1 t (n+s.size) (xs++Lib.strCells s)→w.grownBy w' v.ownBlock→(t.ownBlock=v.ownBlock∨t.ownBlock=some w.heap.size)→wpList Tryz.prog I Q rest (a.put o.dst t) w'):wpList Tryz.prog I Q (o::rest) a w:=by
 obtain⟨i,J,C,D,E⟩:=info_parts Tryz.infoU8
 refine wpList_plain U fun K hK=> ?_
 have N:=Tryz.underlying95
 have O:=Tryz.underlying9
 obtain⟨t,w',M,X,Y,Z⟩:=Lib.run_append_own_string (P:=Tryz.prog) w 0 _ _ o.type 5 i N O J C D E v n xs m s (by unfold maxLen;omega) hb (Nat.zero_le _)
 have H:t.ownBlock=v.ownBlock∨t.ownBlock=some w.heap.size:=by
  rcases m.2 with ⟨rfl,rfl⟩ | ⟨g,cap,R,rfl,a1,hg,a7,a2,a6,V⟩
  ·by_cases hm:s.size=0
   ·rw[Z.2 ⟨rfl,hm⟩];exact .inl rfl
   ·have q:=run_append_nil_string (P:=Tryz.prog) w _ _ o.type 5 i (.int .u8 0) N O J C s (by omega) (by omega) (by rw[E];omega);rw[M] at q;injection q with q;rw[q];exact .inr rfl
  ·by_cases z:n+s.size≤cap
   ·have q:=Lib.run_append_room_string (P:=Tryz.prog) w _ _ o.type 5 i N O J D g n cap R hg s z (by omega);rw[M] at q;injection q with q;rw[q];exact .inl rfl
   ·have y:∀j u,xs[j]? = some u→w.cell? ((⟨g,0,none⟩:Addr).add j)=some u:=m.cells (g:=g) rfl;have a8:xs.length=n:=by simpa using m.1
    have q:=Lib.run_append_grow_string (P:=Tryz.prog) w _ _ o.type 5 i (.int .u8 0) N O J C ⟨g,0,none⟩ n cap xs (by rw[D];omega) y s (by omega) (by omega) (by rw[E];exact growslice_fits (by omega) (by omega));rw[M] at q;injection q with q;rw[q];exact .inr rfl
 unfold Oper.wp execOp
 simp only[ho,resolve,invoke,builtin,Sem.run_bind,Sem.run_pure,Result.andThen_ok,List.map_toArray,List.map_cons,List.map_nil,hs,hx,M]
 exact hK _ _ (h t w' X Y H)
def Jo.more(j:Jo)(s:ByteArray):Jo:= {j with bs:=j.bs++s}
theorem q6g(g:Nat)(S:Nat→Prop)(j:Jo)(s:ByteArray)(w:World)(h:JoS w g S j)(N:j.bs.size+s.size≤140737488355328) :
  Calls Tryz.prog 125 #[.pointer (some ⟨g,0,none⟩),.string s] w fun e w'=>e = .returned (.tuple #[.int .i64 s.size,.nilIface])∧JoS w' g (Fr S w w') (j.more s)∧Upd S w w':=by
 obtain⟨p,buf,h⟩:=h
 have M:=qow g S j p buf w h
 have H:=h.inG
 go_enter Tryz.func125,Tryz.ntmps125
 go_wp2_with fail
 refine M.mono ?_
 rintro e w1 ⟨rfl,u1,q⟩
 have c1:w1.cell? ⟨g,1,none⟩=some buf:=qk q.at_ 1
 have U:g<w1.heap.size:=zi q.at_
 have W:=qj q
 have D:=q.row
 have X:=qj (u1.mono (T:=S) (fun k _ e=>by rw[e];exact H))
 clear M q u1 h
 go_wp2_with (at_builtin;refine qvd rfl _ _ rfl buf _ _ _ rfl D s rfl N ?_)
 intro v' z i o C
 have q:=qg W
 have J:buf.ownBlock≠some g:=fun e=>by
  obtain⟨E,K⟩:=zv q.row g e;exact zx K q.at_ (by decide) rfl
 have m:JoR z g (j.v (.pointer (some ⟨g,0,none⟩)) buf):=by
  unfold JoR;rw[o.block g U (fun e=>J e.symm)];exact q.at_
 have P:Upd S w1 z:=(Upd.refl S w1).grown o (fun k e _=>q.inB k e)
 obtain⟨t,x,cap,rfl⟩:∃t x cap,v' = .slice t x cap:=by
  rcases i.2 with ⟨V,_⟩ | ⟨g',cap,E,V,_⟩
  ·exact⟨_,_,_,V⟩
  ·exact⟨_,_,_,V⟩
 have d1:z.cell? ⟨g,1,none⟩=some buf:=qk m 1
 have f1:z.frozen? ⟨g,1,none⟩=false:=qo m 1
 have O:JoR (z.setCell ⟨g,1,none⟩ (.slice t x cap)) g ((j.more s).v (.pointer (some ⟨g,0,none⟩)) (.slice t x cap)):=zq m 1 (.slice t x cap)
 have I:Upd (· = g) z (z.setCell ⟨g,1,none⟩ (.slice t x cap)):=(Upd.refl _ _).set1 _ _
 have a1:g<z.heap.size:=zi m
 have HO:=qj i
 have HA:=qj m
 have HS:=qj O
 have U2:=qj P
 have U3:=qj I
 have R:=qj C
 clear C i m O o P I D c1 J q
 go_wp2_with fail
 go_ret2
 have q:=qg W
 have i:=qg HO
 have P:=qg U2
 have I:=qg U3
 have hU:Upd S w (z.setCell ⟨g,1,none⟩ (.slice t x cap)):=((qg X).trans P).trans (I.mono (fun k _ e=>by rw[e];exact H))
 have a2:=(qg X).size
 have Y:=P.size
 have Z:=I.size
 refine⟨rfl,⟨.pointer (some ⟨g,0,none⟩),.slice t x cap,qg HS,.inr rfl,?_,.inl H,?_,?_⟩,hU⟩
 ·have:(z.setCell ⟨g,1,none⟩ (.slice t x cap)).ownsRow 0 5 1 (.slice t x cap) (j.bs.size+s.size) (Lib.strCells j.bs++Lib.strCells s):=zc i I (fun k y e=>by
   obtain⟨E,K⟩:=zv i k y;exact zx K (qg HA) (by decide) e)
  show (z.setCell ⟨g,1,none⟩ (.slice t x cap)).ownsRow 0 5 1 (.slice t x cap) (j.bs++s).size (Lib.strCells (j.bs++s));rw[ByteArray.size_append,qmb];exact this
 ·intro k y;rcases qg R with e | e
  ·rw[e] at y;exact .inl (q.inB k y)
  ·rw[e] at y;injection y with y;obtain⟨E,K⟩:=zv i k (by rw[e,y]);have:=zi K;exact .inr ⟨by omega,by omega⟩
 ·rintro k (y | y)
  ·have:=q.lt k y;omega
  ·omega
theorem qwf(g:Nat)(S:Nat→Prop)(j:Jo)(s:ByteArray)(w:World)(h:JoS w g S j)(z:j.fused=false)(m:j.bs.size+s.size≤140737488355328) :
  Calls Tryz.prog 149 #[.pointer (some ⟨g,0,none⟩),.string s] w fun e w'=>e = .returned (.bool true)∧JoS w' g (Fr S w w') (j.more s)∧Upd S w w':=by
 have i:=q6g g S j s w h m
 obtain⟨p,buf,q⟩:=h
 have y:w.cell? ⟨g,3,none⟩=some (.bool false):=z▸qk q.at_ 3
 clear q
 go_enter Tryz.func149,Tryz.ntmps149
 go_wp2_with fail
 refine i.mono ?_
 rintro e w1 ⟨rfl,o,t⟩
 have v:=qj o
 have x:=qj t
 clear i o t y
 go_wp2_with fail
 go_ret
 exact⟨rfl,qg v,qg x⟩
attribute [local go_sem ↓ high] ze zf zg zj zl qds qls qk0 qk4 qk7 qfn
attribute [local go_sem] qau qav qaw zz qy qa9 qkk q5u q2a qvh qxz qre qmz
def qbf(c:Ch)(n i:Int):Int :=
 if c.k.shutSaid=true then 135 else if n=0 then 1 else if i<1∨1073741824<i then 131 else if 8≤qd6 true c.xs then 130 else if c.loc<n then 61 else 0
def qc1(c:Ch)(n:Int)(h:Vector Int 32)(i:Int):Live:=⟨⟨c.k.nextOwn,n,h,i⟩,true,0,false⟩
def Ch.offered(c:Ch)(n:Int)(h:Vector Int 32)(i:Int):Ch :=
 {c with loc:=c.loc-n,k:= {c.k with nextOwn:=IntKind.u64.wrap (c.k.nextOwn+1)},xs:=c.xs++[qc1 c n h i]}
def qd1(c:Ch)(n:Int)(h:Vector Int 32)(i:Int):MsgV:=⟨3,0,c.k.nextOwn,n,h.toList,i,0⟩
def Ch.offer(c:Ch)(n:Int)(h:Vector Int 32)(i:Int):Ch × MsgV × Int :=
 if qbf c n i=0 then ((c.offered n h i).say (qd1 c n h i),(qd1 c n h i).on c.s.ch,0) else (c,MsgV.zero,qbf c n i)
theorem qi3:∃i z b,Tryz.prog.info? 69=some i∧i.zero=some z∧i.size=38∧i.bytes=b∧z.cells.size=38∧b≤1000:=by
 obtain⟨i,z,o,v,t⟩:=qcv Tryz.zeroLive';have m:(Tryz.prog.info? 69).map (fun i=>decide (i.bytes≤1000))=some true:=by kernel_rfl
 have q:=Tryz.infoLive;rw[o,Option.map_some,Option.some.injEq] at m q;exact⟨i,z,i.bytes,o,v,q,rfl,by rw[t];rfl,of_decide_eq_true m⟩
theorem ChP.appLive{C t:World}{g:Nat}{S:Nat→Prop}{c:Ch}{N Y R:Value}(h:ChP C g S c N Y R)(x:Live)(hx:LiveOk x)(a1:c.xs.length<1000000)(m:Value)(q:t.ownsRow 0 69 38 m (c.xs.length+1) (c.xs.flatMap qm++qm x))(V:C.grownBy t N.ownBlock)(w:m.ownBlock=N.ownBlock∨m.ownBlock=some C.heap.size) :
  ChP (t.setCell ⟨g,47,none⟩ m) g (Fr S C (t.setCell ⟨g,47,none⟩ m)) {c with xs:=c.xs++[x]} m Y R∧Upd S C (t.setCell ⟨g,47,none⟩ m):=by
 have P:Upd (fun k=>N.ownBlock=some k) C t:=(Upd.refl _ _).grown V (fun k i _=>i)
 have D:∀ {T:TypeId} {v:Value} {n:Nat} {xs:List Value},T≠126→C.ownsRow 0 T 38 v n xs→∀k,v.ownBlock=some k→k≠g:=by
  intro T v n xs hT J k i e;obtain⟨E,I⟩:=zv J k i;exact zx I h.at_ hT e
 have H:=P.old h.at_ (fun e=>D (by decide) h.live g e rfl)
 have O:Upd (· = g) t (t.setCell ⟨g,47,none⟩ m):=(Upd.refl _ _).set1 47 _
 have o:=zq H 47 m
 rw[quu c N Y R h.ok.s.seed (c.xs++[x])] at o
 have W:∀k,m.ownBlock=some k→k≠g:=by
  intro k i;rcases w with e | e
  ·rw[e] at i;exact D (by decide) h.live k i
  ·rw[e] at i;injection i with i;have:=zi h.at_;omega
 have K:∀k,m.ownBlock=some k→k<t.heap.size:=fun k i=>by
  obtain⟨E,I⟩:=zv q k i;exact zi I
 have hz:=P.size
 have X:=O.size
 generalize t.setCell ⟨g,47,none⟩ m=wE at O o X ⊢
 have z:∀ {v:Value} {n:Nat} {xs:List Value},C.ownsRow 0 101 38 v n xs→wE.ownsRow 0 101 38 v n xs:=by
  intro v n xs J;refine zc (zc J P (fun k i e=> ?_)) O (fun k i e=>D (by decide) J k i e);obtain⟨E,I⟩:=zv J k i;obtain⟨Z,U⟩:=zv h.live k e;exact zx I U (by decide) rfl
 refine⟨⟨o,⟨h.ok.s,h.ok.signed,h.ok.heard,h.ok.nextOwn,h.ok.nextTheirs,h.ok.loc,h.ok.rem,?_,?_,h.ok.shelf,h.ok.news,h.ok.last,h.ok.many⟩,?_,z h.news,z h.last,.inl h.inG,?_,fun k e=> .inl (h.inN k e),fun k e=> .inl (h.inA k e),h.sep,?_⟩,(P.mono (fun k _ e=>h.inL k e)).trans (O.mono (fun k _ e=>by rw[e];exact h.inG))⟩
 ·intro y M;rcases List.mem_append.1 M with M | M
  ·exact h.ok.xs y M
  ·rw[List.mem_singleton.1 M];exact hx
 ·show (c.xs++[x]).length≤1000000;rw[List.length_append];simp;omega
 ·show wE.ownsRow 0 _ 38 m (c.xs++[x]).length ((c.xs++[x]).flatMap qm);rw[List.length_append,List.flatMap_append];have:[x].flatMap qm=qm x:=by simp
  rw[this];exact zc q O (fun k i e=>W k i e)
 ·intro k i;rcases w with e | e
  ·rw[e] at i;exact .inl (h.inL k i)
  ·have:=K k i;rw[e] at i;injection i with i;exact .inr ⟨by omega,by omega⟩
 ·rintro k (i | i)
  ·have:=h.lt k i;omega
  ·exact i.2
theorem q0v(g:Nat)(S:Nat→Prop)(c:Ch)(n:Int)(P:Vector Int 32)(M:Int)(w:World)(h:ChS w g S c)(hn:0≤n∧n<18446744073709551616)(hx : -9223372036854775808≤M∧M≤9223372036854775807)(hb:∀b∈P.toList,0≤b∧b≤255)(d7:c.news.length<1000000∧c.xs.length<1000000) :
  Calls Tryz.prog 47 #[.pointer (some ⟨g,0,none⟩),.int .u64 n,.agg (P.toList.map (Value.int .u8)).toArray,.int .i64 M] w fun e w' =>
   e = .returned (.tuple #[.agg (c.offer n P M).2.1.cells.toArray,.int .i64 (c.offer n P M).2.2])∧ChS w' g (Fr S w w') (c.offer n P M).1∧Upd S w w':=by
 obtain⟨lv,nv,av,h⟩:=h
 have b1:(P.toList.map (Value.int .u8)).length=32:=by simp
 obtain⟨H,f4⟩:∃H,H=P.toList.map (Value.int .u8):=⟨_,rfl⟩
 rw[←f4] at b1 ⊢
 have g5:=qj f4
 clear f4
 go_enter Tryz.func47,Tryz.ntmps47
 go_upto_region 1 with fail
 have c8:((w.alloc (.cells H.toArray 35)).alloc (.cells MsgV.zero.cells.toArray 101)).heap[w.heap.size]? = some (.cells H.toArray 35 (0,0)):=qx (ql _ _) _
 have c9:((w.alloc (.cells H.toArray 35)).alloc (.cells MsgV.zero.cells.toArray 101)).heap[w.heap.size+1]? = some (.cells MsgV.zero.cells.toArray 101 (0,0)):=by
  have:=ql (w.alloc (.cells H.toArray 35)) (.cells MsgV.zero.cells.toArray 101);rwa [World.size_alloc] at this
 have nA:qq w ((w.alloc (.cells H.toArray 35)).alloc (.cells MsgV.zero.cells.toArray 101)):=((Upd.refl _ _).alloc _).alloc _
 generalize (w.alloc (.cells H.toArray 35)).alloc (.cells MsgV.zero.cells.toArray 101)=wA at c8 c9 nA ⊢
 obtain⟨A,h4⟩:∃A,A=w.heap.size:=⟨_,rfl⟩
 obtain⟨B,h8⟩:∃B,B=w.heap.size+1:=⟨_,rfl⟩
 rw[←h8] at c9 ⊢
 rw[←h4] at c8 ⊢
 have hA:=h.new nA
 have f9:g≠A:=by have:=h.lt g h.inG;omega
 have g0:g≠B:=by have:=h.lt g h.inG;omega
 have k2:w.heap.size≤A:=by omega
 have k3:w.heap.size≤B:=by omega
 have m7:B≠A:=by omega
 clear h4 h8
 have e8:wA.cell? ⟨g,42,none⟩=some (.bool c.k.shutSaid):=hA.toR.shutSaid
 have b7:wA.cell? ⟨g,45,none⟩=some (.int .u64 c.loc):=hA.toR.loc
 have g8:∀(W:World),qq w W→W.heap[B]? = some (.cells MsgV.zero.cells.toArray 101 (0,0)) →
   stOk W B 0 38 MsgV.zero.cells.toArray=true∧(W.setCells B 0 MsgV.zero.cells).heap[B]? = some (.cells MsgV.zero.cells.toArray 101 (0,0))∧ChS (W.setCells B 0 MsgV.zero.cells) g (Fr S w (W.setCells B 0 MsgV.zero.cells)) c∧Upd S w (W.setCells B 0 MsgV.zero.cells):=by
  intro W nW hW
  have u:Upd (· = B) W (W.setCells B 0 MsgV.zero.cells):=(Upd.refl _ _).setCells 0 _
  exact⟨qfd (m:=MsgV.zero) hW qu,qe9 (m:=MsgV.zero) hW qu,((h.new nW).upd u (fun k N e=>by have:=h.lt k N;omega)).fr w,((nW.mono (fun _ _ h=>h.elim)).then u (fun i hi e=>by omega))⟩
 have R:=qj g8
 have H0:=qj h
 have HA:=qj hA
 have NA:=qj nA
 have BA:=qj c8
 have BB:=qj c9
 clear g8 h hA nA c8 c9
 by_cases e1:c.k.shutSaid=true
 ·have O:qbf c n M=135:=by unfold qbf;rw[if_pos e1]
  rw[e1] at e8;have J:c.offer n P M=(c,MsgV.zero,135):=by unfold Ch.offer;rw[if_neg (by rw[O];decide),O]
  have HO:=qj J;clear J O;go_upto_region 2 with fail;obtain⟨X,t,z,Y⟩:=qg R wA (qg NA) (qg BB);have HF:=qj t;have HC:=qj z;have HU:=qj Y;clear t z Y;go_wp2_with fail;refine bodyPost_ret (zb rfl _ _ B _ _ _ _ rfl (qg HF) Tryz.underlying101 rfl (by rw[List.size_toArray,MsgV.len _ qu];exact Tryz.infoMsg)) rfl ?_;rw[qg HO];exact⟨rfl,qg HC,qg HU⟩
 have j7:c.k.shutSaid=false:=by simpa using e1
 rw[j7] at e8
 by_cases e2:n=0
 ·have O:qbf c n M=1:=by unfold qbf;rw[if_neg e1,if_pos e2]
  have J:c.offer n P M=(c,MsgV.zero,1):=by unfold Ch.offer;rw[if_neg (by rw[O];decide),O]
  have HO:=qj J;clear J O;go_upto_region 4 with fail;obtain⟨X,t,z,Y⟩:=qg R wA (qg NA) (qg BB);have HF:=qj t;have HC:=qj z;have HU:=qj Y;clear t z Y;go_wp2_with fail;refine bodyPost_ret (zb rfl _ _ B _ _ _ _ rfl (qg HF) Tryz.underlying101 rfl (by rw[List.size_toArray,MsgV.len _ qu];exact Tryz.infoMsg)) rfl ?_;rw[qg HO];exact⟨rfl,qg HC,qg HU⟩
 by_cases e3:M<1
 ·have O:qbf c n M=131:=by unfold qbf;rw[if_neg e1,if_neg e2,if_pos (.inl e3)]
  have J:c.offer n P M=(c,MsgV.zero,131):=by unfold Ch.offer;rw[if_neg (by rw[O];decide),O]
  have HO:=qj J;clear J O;go_upto_region 6 with fail;obtain⟨X,t,z,Y⟩:=qg R wA (qg NA) (qg BB);have HF:=qj t;have HC:=qj z;have HU:=qj Y;clear t z Y;go_wp2_with fail;refine bodyPost_ret (zb rfl _ _ B _ _ _ _ rfl (qg HF) Tryz.underlying101 rfl (by rw[List.size_toArray,MsgV.len _ qu];exact Tryz.infoMsg)) rfl ?_;rw[qg HO];exact⟨rfl,qg HC,qg HU⟩
 by_cases e4:1073741824<M
 ·have O:qbf c n M=131:=by unfold qbf;rw[if_neg e1,if_neg e2,if_pos (.inr e4)]
  have J:c.offer n P M=(c,MsgV.zero,131):=by unfold Ch.offer;rw[if_neg (by rw[O];decide),O]
  have HO:=qj J;clear J O;go_upto_region 6 with fail;obtain⟨X,t,z,Y⟩:=qg R wA (qg NA) (qg BB);have HF:=qj t;have HC:=qj z;have HU:=qj Y;clear t z Y;go_wp2_with fail;refine bodyPost_ret (zb rfl _ _ B _ _ _ _ rfl (qg HF) Tryz.underlying101 rfl (by rw[List.size_toArray,MsgV.len _ qu];exact Tryz.infoMsg)) rfl ?_;rw[qg HO];exact⟨rfl,qg HC,qg HU⟩
 have i8:=qp8 g S c true wA ⟨lv,nv,av,qg HA⟩
 go_wp2_with fail
 refine i8.mono ?_
 rintro e w1 ⟨rfl,n1⟩
 have g9:=n1.cell b7 (fun h=>h)
 have d5:=(qg NA).trans n1
 have h5:=n1.old (qg BB) (fun h=>h)
 have N1:=qj d5
 have B1:=qj h5
 have M1:=qj n1
 clear b7 e8 i8 n1 d5 h5
 by_cases e5:8≤qd6 true c.xs
 ·have O:qbf c n M=130:=by unfold qbf;rw[if_neg e1,if_neg e2,if_neg (by omega),if_pos e5]
  have j8:8≤(qd6 true c.xs:Int):=by omega
  have J:c.offer n P M=(c,MsgV.zero,130):=by unfold Ch.offer;rw[if_neg (by rw[O];decide),O]
  have HO:=qj J;clear J O;go_upto_region 8 with fail;obtain⟨X,t,z,Y⟩:=qg R w1 (qg N1) (qg B1);have HF:=qj t;have HC:=qj z;have HU:=qj Y;clear t z Y;go_wp2_with fail;refine bodyPost_ret (zb rfl _ _ B _ _ _ _ rfl (qg HF) Tryz.underlying101 rfl (by rw[List.size_toArray,MsgV.len _ qu];exact Tryz.infoMsg)) rfl ?_;rw[qg HO];exact⟨rfl,qg HC,qg HU⟩
 have j8:¬8≤(qd6 true c.xs:Int):=by omega
 by_cases e6:c.loc<n
 ·have O:qbf c n M=61:=by unfold qbf;rw[if_neg e1,if_neg e2,if_neg (by omega),if_neg e5,if_pos e6]
  have J:c.offer n P M=(c,MsgV.zero,61):=by unfold Ch.offer;rw[if_neg (by rw[O];decide),O]
  have HO:=qj J;clear J O;go_upto_region 10 with fail;obtain⟨X,t,z,Y⟩:=qg R w1 (qg N1) (qg B1);have HF:=qj t;have HC:=qj z;have HU:=qj Y;clear t z Y;go_wp2_with fail;refine bodyPost_ret (zb rfl _ _ B _ _ _ _ rfl (qg HF) Tryz.underlying101 rfl (by rw[List.size_toArray,MsgV.len _ qu];exact Tryz.infoMsg)) rfl ?_;rw[qg HO];exact⟨rfl,qg HC,qg HU⟩
 have O:qbf c n M=0:=by unfold qbf;rw[if_neg e1,if_neg e2,if_neg (by omega),if_neg e5,if_neg e6]
 have J:c.offer n P M=((c.offered n P M).say (qd1 c n P M),(qd1 c n P M).on c.s.ch,0):=by unfold Ch.offer;rw[if_pos O]
 have HO:=qj J
 clear J O
 go_upto_region 11 with fail
 have c0:=(qg HA).new (qg M1)
 have f0:=(qg M1).old (qg BA) (fun h=>h)
 have a7:w1.cell? ⟨g,40,none⟩=some (.int .u64 c.k.nextOwn):=c0.toR.nextOwn
 have rA:zt w1 A 0 32=some H.toArray:=qaj f0 32 (by rw[List.size_toArray,b1])
 have h9:w1.drew.cell? ⟨g,40,none⟩=some (.int .u64 c.k.nextOwn)∧zt w1.drew A 0 32=some H.toArray:=⟨a7,rA⟩
 obtain⟨K,hK⟩:∃K:List Value,K = .int .u64 c.k.nextOwn :: .int .u64 n::(H++[.int .i64 M]):=⟨_,rfl⟩
 have b2:K.length=35:=by rw[hK];simp[b1]
 have i1:K=qv (qc1 c n P M).h:=by rw[hK,qg g5];rfl
 have nD:qq w1 (w1.alloc (.cells (qv Htlc.zero).toArray 41)).drew:=((Upd.refl _ _).alloc _).drew
 have b3:(w1.alloc (.cells (qv Htlc.zero).toArray 41)).drew.heap[w1.heap.size]? = some (.cells (qv Htlc.zero).toArray 41 (0,0)):=ql w1 _
 have i0:w.heap.size≤w1.heap.size:=(qg N1).size
 have d1:g≠w1.heap.size:=by have:=zi c0.at_;omega
 have h3:A≠w1.heap.size:=by have:=zi f0;omega
 have h7:B≠w1.heap.size:=by have:=zi (qg B1);omega
 have j4:=qj c0
 have g6:=qj i1
 have HK:=qj hK
 have a6:Hid ((w1.alloc (.cells (qv Htlc.zero).toArray 41)).drew.cell? ⟨g,40,none⟩=some (.int .u64 c.k.nextOwn)∧zt (w1.alloc (.cells (qv Htlc.zero).toArray 41)).drew A 0 32=some H.toArray):=qj ⟨nD.cell a7 (fun h=>h),qbg rA nD (fun h=>h)⟩
 clear c0 f0 a7 rA i1 hK
 refine qay (fun w'=>w'.cell? ⟨g,40,none⟩=some (.int .u64 c.k.nextOwn)∧zt w' A 0 32=some H.toArray) [4,6] (.of [0,1,2,3,4,5,6,7,8,9,10]) (by kernel_rfl) (by kernel_rfl) h9 ?_
 simp only[Plan.of]
 go_wp2_with ((with_reducible first|rfl|refine' ut ?_ ?_;rotate_left|refine' uu ?_)<;>intros)
 refine⟨qg a6,?_⟩
 obtain⟨E,hE⟩:∃E,E=w1.heap.size:=⟨_,rfl⟩
 rw[←hE] at b3 i0 d1 h3 h7 ⊢
 clear hE h9
 have f1:=nD.old ((qg M1).old (qg BA) (fun h=>h)) (fun h=>h)
 have f2:=nD.old (qg B1) (fun h=>h)
 have f6:=(qg j4).new nD
 have g2:=(qg N1).trans nD
 rw[←qg HK]
 generalize (w1.alloc (.cells (qv Htlc.zero).toArray 41)).drew=wD at b3 f1 f2 f6 g2 ⊢
 have f5:∀v∈K,v.oneCell'=true:=by rw[qg g6];exact qhx _
 have X:stOk wD E 0 35 K.toArray=true:=qdk (C:=(qv Htlc.zero).toArray) b3 (by rw[b2];rfl) f5
 have i4:(wD.setCells E 0 K).heap[E]? = some (.cells K.toArray 41 (0,0)):=by
  rw[qax b3 0 K,qb5 _ _ (by rw[b2];rfl)]
 have uE:Upd (· = E) wD (wD.setCells E 0 K):=(Upd.refl _ _).setCells 0 K
 have h2:=uE.old f1 h3
 have h6:=uE.old f2 h7
 have y:=f6.upd uE (fun k N e=>by have:=(qg H0).lt k N;omega)
 have g3:qq w (wD.setCells E 0 K):=g2.then uE (fun i hi e=>by omega)
 have P3:=qj y
 have A3:=qj h2
 have B3:=qj h6
 have E3:=qj i4
 clear f1 f2 f6 g2 b3 i4 uE h2 h6 y nD g9 a6
 go_upto_region 12 with ((with_reducible first|rfl|refine' ut ?_ ?_;rotate_left|refine' uu ?_)<;>intros)
 clear X
 generalize wD.setCells E 0 K=w3 at P3 A3 B3 E3 g3 ⊢
 have y:=qg P3
 have b7:w3.cell? ⟨g,45,none⟩=some (.int .u64 c.loc):=y.toR.loc
 have k0:w3.frozen? ⟨g,45,none⟩=false:=qo y.at_ 45
 have m8:=y.ok.loc
 have m9:=y.ok.nextOwn
 have l4:IntKind.u64.wrap (c.loc-n)=c.loc-n:=qdl (by omega) (by omega)
 obtain⟨c1,V⟩:∃c1:Ch,c1 = {c with loc:=c.loc-n} := ⟨_,rfl⟩
 have d8:c1.Ok:=by
  rw[V];exact⟨y.ok.s,y.ok.signed,y.ok.heard,y.ok.nextOwn,y.ok.nextTheirs,show 0≤c.loc-n∧c.loc-n<_ by omega,y.ok.rem,y.ok.xs,y.ok.few,y.ok.shelf,y.ok.news,y.ok.last,y.ok.many⟩
 have I:=y.put (i:=45) (x:= .int .u64 (c.loc-n)) (c':=c1) (by rw[V];exact qyk c lv nv av y.ok.s.seed (c.loc-n)) d8 (by rw[V]) (by rw[V]) (by rw[V])
 have u4:Upd (· = g) w3 (w3.setCell ⟨g,45,none⟩ (.int .u64 (c.loc-n))):=(Upd.refl _ _).set1 45 _
 have P4:=qj I
 have A4:=qj (u4.old (qg A3) (fun e=>f9 e.symm))
 have B4:=qj (u4.old (qg B3) (fun e=>g0 e.symm))
 have E4:=qj (u4.old (qg E3) (fun e=>d1 e.symm))
 have U4:=qj ((g3.mono (fun _ _ h=>h.elim)).trans (u4.mono (fun k _ e=>by rw[e];exact(qg H0).inG)):Upd S w _)
 clear y d8 I u4 P3 A3 B3 E3 g3
 go_upto_region 13 with ((with_reducible first|rfl|refine' ut ?_ ?_;rotate_left|refine' uu ?_)<;>intros)
 clear b7 k0 l4
 generalize w3.setCell ⟨g,45,none⟩ (.int .u64 (c.loc-n))=w4 at P4 A4 B4 E4 U4 ⊢
 have I:=qg P4
 have l1:c1.k=c.k:=by rw[V]
 have a7:w4.cell? ⟨g,40,none⟩=some (.int .u64 c.k.nextOwn):=by rw[←l1];exact I.toR.nextOwn
 have j9:w4.frozen? ⟨g,40,none⟩=false:=qo I.at_ 40
 obtain⟨U,b8⟩:∃x,x=IntKind.u64.wrap (c.k.nextOwn+1):=⟨_,rfl⟩
 have i3:0≤U∧U<18446744073709551616:=by rw[b8,IntKind.wrap_u64];omega
 have l6:IntKind.u64.wrap (c.k.nextOwn+1)=U:=b8.symm
 obtain⟨c2,a1⟩:∃c2:Ch,c2 = {c1 with k:= {c1.k with nextOwn:=U}} := ⟨_,rfl⟩
 have d9:c2.Ok:=by
  rw[a1];exact⟨I.ok.s,I.ok.signed,I.ok.heard,i3,I.ok.nextTheirs,I.ok.loc,I.ok.rem,I.ok.xs,I.ok.few,I.ok.shelf,I.ok.news,I.ok.last,I.ok.many⟩
 have Z:=I.put (i:=40) (x:= .int .u64 U) (c':=c2) (by rw[a1];exact quw c1 lv nv av I.ok.s.seed U) d9 (by rw[a1]) (by rw[a1]) (by rw[a1])
 have u5:Upd (· = g) w4 (w4.setCell ⟨g,40,none⟩ (.int .u64 U)):=(Upd.refl _ _).set1 40 _
 have P5:=qj Z
 have A5:=qj (u5.old (qg A4) (fun e=>f9 e.symm))
 have B5:=qj (u5.old (qg B4) (fun e=>g0 e.symm))
 have E5:=qj (u5.old (qg E4) (fun e=>d1 e.symm))
 have U5:=qj ((qg U4).trans (u5.mono (fun k _ e=>by rw[e];exact(qg H0).inG)))
 have a6:=qj V
 have g4:=qj a1
 have j3:=qj b8
 clear I d9 Z u5 P4 A4 B4 E4 U4 V a1 b8
 go_upto_region 14 with ((with_reducible first|rfl|refine' ut ?_ ?_;rotate_left|refine' uu ?_)<;>intros)
 clear a7 j9 l6
 generalize w4.setCell ⟨g,40,none⟩ (.int .u64 U)=w5 at P5 A5 B5 E5 U5 ⊢
 have Z:=qg P5
 have e9:w5.drew.cell? ⟨g,47,none⟩=some lv:=Z.toR.live
 have rE:zt w5 E 0 35=some K.toArray:=qaj (qg E5) 35 (by rw[List.size_toArray,b2])
 obtain⟨L,hL⟩:∃L:List Value,L=K++([.bool true,.int .i64 0,.bool false]:List Value):=⟨_,rfl⟩
 have k5:L.length=38:=by rw[hL];simp[b2]
 have i2:L=qm (qc1 c n P M):=by rw[hL,qg g6];rfl
 have k7:∀W:World,(qs0 #[(0,.agg K.toArray),(1,.bool true),(2,.int .i64 0)]).run Tryz.prog W = .ok (.agg L.toArray) W:=fun W=>by rw[qxz,if_pos b2,hL]
 obtain⟨i9,z9,b9,l0,j1,l8,l9,m0,k6⟩:=qi3
 obtain⟨la,m3,i6⟩:=qaa Z.live
 have j0:c2.xs=c.xs:=by rw[qg g4,qg a6]
 have nF:qq w5 (w5.alloc (.cells L.toArray 69)).drew:=((Upd.refl _ _).alloc _).drew
 have d0:(w5.alloc (.cells L.toArray 69)).drew.heap[w5.heap.size]? = some (.cells L.toArray 69 (0,0)):=ql w5 _
 have P6:=qj (Z.new nF)
 have A6:=qj (nF.old (qg A5) (fun h=>h))
 have B6:=qj (nF.old (qg B5) (fun h=>h))
 have E6:=qj (nF.old (qg E5) (fun h=>h))
 have U6:=qj ((qg U5).trans (nF.mono (fun _ _ h=>h.elim)))
 have a8:=nF.cell e9 (fun h=>h)
 have HL:=qj hL
 have g7:=qj i2
 have j5:=qj j0
 clear Z P5 A5 B5 E5 U5 hL i2 j0
 refine qay (fun w'=>w'.cell? ⟨g,47,none⟩=some lv) [4] (.of [0,1,2,3,4,5,6,7,8,9,10,11]) (by kernel_rfl) (by kernel_rfl) e9 ?_
 simp only[Plan.of]
 go_wp2_with ((with_reducible first|rfl|refine' ut ?_ ?_;rotate_left|refine' uu ?_)<;>intros)
 refine⟨trivial,?_⟩
 clear e9 nF rE k7
 have k4:w.heap.size≤w5.heap.size:=by
  have:=(qg U6).size;have e:(w5.alloc (.cells L.toArray 69)).drew.heap.size=w5.heap.size+1:=World.size_alloc _ _;have:=zi (qg E6);omega
 generalize (w5.alloc (.cells L.toArray 69)).drew=w6 at d0 P6 A6 B6 E6 U6 a8 ⊢
 generalize w5.heap.size=D at d0 k4 ⊢
 have T:=(qg P6).live
 unfold qq1 at T
 rw[i6] at T
 have HN:=qj T
 clear T
 have k9:c2.xs.length<1000000:=by rw[qg j5];exact d7.2
 go_wp2_with (first | (at_builtin;refine wpList_append_own_at _ rfl (.tmp 76) (.tmp 79) 46 rfl 0 69 i9 _ 38 b9 Tryz.underlying46 l0 j1 l8 l9 m0 (by decide) _ _ _ rfl (qg HN) ⟨D,0,none⟩ 1 1 L rfl (by rw[k5]) ?c1 ?c2 ?c3 ?c4 ?c5 ?_) | ((with_reducible first|rfl|refine' ut ?_ ?_;rotate_left|refine' uu ?_)<;>intros))
 case c1=>exact World.news_of_block (cs:=L.toArray) (fr:=(0,0)) d0
 case c2=>rw[qg g7];exact qem _
 case c3=>unfold maxLen;omega
 case c4=>have:=Nat.mul_le_mul (show c2.xs.length+1≤1000000 by omega) k6;omega
 case c5=>omega
 intro v' wE a2 d2 _ b4
 obtain⟨a',h1,d3⟩:=qaa a2
 rw[←i6] at d2 b4
 have l7:LiveOk (qc1 c n P M):=⟨⟨⟨(qg H0).ok.nextOwn.1,by have:=(qg H0).ok.nextOwn.2;show c.k.nextOwn≤_;omega⟩,⟨hn.1,by show n≤_;omega⟩,hb,hx⟩,⟨by show (-9223372036854775808:Int)≤0;decide,by show (0:Int)≤9223372036854775807;decide⟩⟩
 have c7:=(qg P6).appLive (qc1 c n P M) l7 k9 v' (by rw[←qg g7];exact a2) d2 b4
 have uE:Upd (fun k=>lv.ownBlock=some k) w6 wE:=(Upd.refl _ _).grown d2 (fun k N _=>N)
 have c6:=(qg H0).lt
 have l2:∀k,lv.ownBlock=some k→k<w.heap.size:=fun k N=>c6 k ((qg H0).inL k N)
 have uG:Upd (· = g) wE (wE.setCell ⟨g,47,none⟩ v'):=(Upd.refl _ _).set1 47 _
 have d4:∀ {k:Nat} {o:Obj},w.heap.size≤k→k≠g→w6.heap[k]? = some o→(wE.setCell ⟨g,47,none⟩ v').heap[k]? = some o:=fun N hg ho=>uG.old (uE.old ho (fun e=>by have:=l2 _ e;omega)) hg
 have A7:=qj (d4 k2 (fun e=>f9 e.symm) (qg A6))
 have B7:=qj (d4 k3 (fun e=>g0 e.symm) (qg B6))
 have E7:=qj (d4 i0 (fun e=>d1 e.symm) (qg E6))
 have d6:=uE.old (qg P6).at_ (fun e=>by
  obtain⟨j6,hc⟩:=zv (qg P6).live g e;exact zx (qg P6).at_ hc (by decide) rfl)
 have k1:wE.frozen? ⟨g,47,none⟩=false:=qo d6 47
 have h0:wE.cell? ⟨g,47,none⟩=some lv:=uE.cell a8 (fun e=>by
  obtain⟨j6,hc⟩:=zv (qg P6).live g e;exact zx (qg P6).at_ hc (by decide) rfl)
 have U7:=qj ((qg U6).trans c7.2)
 have P7:=qj c7.1
 have e7:=qj c7.2.size
 have m1:=qj (qg U6).size
 have b0:=qj (zi (qg B6))
 have m5:=qj d3
 rw[d3] at A7 B7 E7 U7 P7 e7
 clear a2 d2 b4 c7 uE uG d4 d6 a8 d0 A6 B6 E6 HN
 rw[d3]
 clear d3
 go_upto_region 15 with ((with_reducible first|rfl|refine' ut ?_ ?_;rotate_left|refine' uu ?_)<;>intros)
 clear h0 k1
 generalize l5:wE.setCell ⟨g,47,none⟩ (.slice a' (c2.xs.length+1) h1)=w7 at A7 B7 E7 U7 P7 e7 ⊢
 clear l5
 have dE:w7.cell? ⟨E,0,none⟩=some (.int .u64 c.k.nextOwn):=by rw[qk (qg E7),qg HK];rfl
 have rA:zt w7 A 0 32=some H.toArray:=qaj (qg A7) 32 (by rw[List.size_toArray,b1])
 obtain⟨m,hm⟩:∃m,m=qd1 c n P M:=⟨_,rfl⟩
 have i7:m.hash.length=32:=by rw[hm];show P.toList.length=32;simp
 have k8:∀W:World,(qhq #[(0,.int .i64 3),(2,.int .u64 c.k.nextOwn),(3,.int .u64 n),(4,.agg H.toArray),(5,.int .i64 M)]).run Tryz.prog W = .ok (.agg m.cells.toArray) W:=fun W=>by
  rw[qmz,if_pos b1,hm,qg g5];rfl
 obtain⟨c3,b5⟩:∃c3:Ch,c3=c.offered n P M:=⟨_,rfl⟩
 have i5:({c2 with xs:=c2.xs++[qc1 c n P M]} : Ch)=c3:=by
  rw[b5,qg g4,qg a6,qg j3];rfl
 have f7:=qg P7
 rw[i5] at f7
 have b6:=qyj g (Fr S w6 w7) c3 m i7 w7 ⟨_,_,_,f7⟩ (by rw[b5];exact d7.1)
 have f8:c3.s.ch=c.s.ch:=by rw[b5];rfl
 rw[f8] at b6
 have m4:=qj f8
 have HM:=qj hm
 have j2:=qj b5
 clear f7 P7 hm b5 i5 f8
 go_wp2_with ((with_reducible first|rfl|refine' ut ?_ ?_;rotate_left|refine' uu ?_)<;>intros)
 refine b6.mono ?_
 rintro e w8 ⟨rfl,z,u8⟩
 have f3:=u8.old (qg B7) (fun N=>by
  rcases N with N | N
  ·have:=c6 _ N;omega
  ·have:=qg b0;omega)
 have g1:(m.on c.s.ch).hash.length=32:=i7
 have X:=qfd f3 g1
 have t:=qe9 f3 g1
 have HF:=qj t
 have u9:Upd (· = B) w8 (w8.setCells B 0 (m.on c.s.ch).cells):=(Upd.refl _ _).setCells 0 _
 have HS:=qj (And.intro z (And.intro u8 u9))
 clear f3 t z u8 u9 dE rA k8 b6
 go_wp2_with ((with_reducible first|rfl|refine' ut ?_ ?_;rotate_left|refine' uu ?_)<;>intros)
 refine bodyPost_ret (zb rfl _ _ B _ _ _ _ rfl (qg HF) Tryz.underlying101 rfl (by rw[List.size_toArray,MsgV.len _ g1];exact Tryz.infoMsg)) rfl ?_
 obtain⟨z,u8,u9⟩:=qg HS
 have m2:=qg m1
 have n2:=(qg U7).size
 have n3:=u8.size
 have j1:=u9.size
 have m6:=qg e7
 rw[qg HO,←qg HM]
 refine⟨rfl,?_,((qg U7).then u8 (fun i hi e=> ?_)).then u9 (fun i hi e=>by omega)⟩
 ·obtain⟨p,q,r,hp⟩:=z;have l3:=hp.upd u9 (fun k N e=>by
   rcases N with (N | N) | N
   ·have:=c6 k N;omega
   ·have:=qg b0;omega
   ·have:=qg b0;omega)
  refine⟨p,q,r,?_⟩;rw[←qg j2];refine l3.wider (fun k N=> ?_) (fun k N=> ?_)
  ·rcases N with (N | N) | N
   ·exact .inl N
   ·exact .inr ⟨by omega,by omega⟩
   ·exact .inr ⟨by omega,by omega⟩
  ·rcases N with N | N
   ·have:=c6 k N;omega
   ·exact N.2
 ·rcases e with e | e
  ·exact e
  ·omega
end
end Go.Proofs.YtfmkdoachjgjbaaGreatDoor
