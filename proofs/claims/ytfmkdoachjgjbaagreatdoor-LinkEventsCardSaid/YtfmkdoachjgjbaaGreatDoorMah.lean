/-
  shut, Shut, Offer.
-/
import Derived.Test.YtfmkdoachjgjbaaGreatDoorMag
import Derived.Test.YtfmkdoachjgjbaaGreatDoorMad
import Derived.Test.YtfmkdoachjgjbaaGreatDoorTxt
import Derived.Test.YtfmkdoachjgjbaaGreatDoorMaf
import Derived.Lib.Builder
import Derived.Lib.AppendStr
set_option maxRecDepth 100000
set_option maxHeartbeats 2000000
set_option linter.unusedVariables false
set_option linter.unusedSimpArgs false
namespace Go.Proofs.YtfmkdoachjgjbaaGreatDoor
section
open Go.RowKit
theorem Tryz.infoHsh:(Tryz.prog.info? 35).map (·.size)=some 32:=by kernel_rfl
def zan(x:Value):Sem Value:=Instr.loadAt 35 x
theorem zl(x:Value):Instr.loadAt 35 x=zan x:=rfl
theorem qbl(b o:Nat)(w:World):(zan (.pointer (some ⟨b,o,none⟩))).run Tryz.prog w=match zf w b o 32 with | some A=> .ok (.agg A) w | none=>qdn Tryz.prog 35 w b o :=
 qah 35 32 _ Tryz.underlying35 rfl Tryz.infoHsh b o w
def zay(x v:Value):Sem Unit:=Instr.storeAt 35 x v
theorem qag(x v:Value):Instr.storeAt 35 x v=zay x v:=rfl
theorem qcl(b o:Nat)(A:Array Value)(w:World):(zay (.pointer (some ⟨b,o,none⟩)) (.agg A)).run Tryz.prog w=if stOk w b o 32 A=true then .ok () (w.setCells b o A.toList) else qel Tryz.prog 35 w b o A :=
 qaw 35 32 Tryz.infoHsh b o A w
theorem Tryz.infoHtl:(Tryz.prog.info? 41).map (·.size)=some 35:=by kernel_rfl
def zao(x:Value):Sem Value:=Instr.loadAt 41 x
theorem qdr(x:Value):Instr.loadAt 41 x=zao x:=rfl
theorem qkb(b o:Nat)(w:World):(zao (.pointer (some ⟨b,o,none⟩))).run Tryz.prog w=match zf w b o 35 with | some A=> .ok (.agg A) w | none=>qdn Tryz.prog 41 w b o :=
 qah 41 35 _ Tryz.underlying41 rfl Tryz.infoHtl b o w
def zaz(x v:Value):Sem Unit:=Instr.storeAt 41 x v
theorem qm0(x v:Value):Instr.storeAt 41 x v=zaz x v:=rfl
theorem q7q(b o:Nat)(A:Array Value)(w:World):(zaz (.pointer (some ⟨b,o,none⟩)) (.agg A)).run Tryz.prog w=if stOk w b o 35 A=true then .ok () (w.setCells b o A.toList) else qel Tryz.prog 41 w b o A :=
 qaw 41 35 Tryz.infoHtl b o A w
def zac:Sem Value:=Instr.alloc 41 true (.tuple #[])
theorem qma:Instr.alloc 41 true (.tuple #[])=zac:=rfl
theorem q3t(w:World):zac.run Tryz.prog w = .ok (.pointer (some ⟨w.heap.size,0,none⟩)) (w.alloc (.cells (qk Htlc.zero).toArray 41)):=by kernel_rfl
attribute [local go_sem ↓ high] qz zb ze zi zl
attribute [local go_sem] qax qay qa4 qab qmf qx qbl
theorem q28(g:Nat)(c:ChanV)(w:World)(h:ChR w g c) :
  Calls Tryz.prog 117 #[.pointer (some ⟨g,0,none⟩)] w (qa7 (.agg (MsgV.cells ⟨8,c.setup.ch,0,0,zg,0,0⟩).toArray) w):=by
 go_enter Tryz.func117,Tryz.ntmps117
 go_upto_region 1 with fail
 have r:(w.alloc (.cells MsgV.zero.cells.toArray 101)).heap[w.heap.size]? = some (.cells MsgV.zero.cells.toArray 101 (0,0)):=qj _ _
 have v:qq w (w.alloc (.cells MsgV.zero.cells.toArray 101)):=(Upd.refl _ _).alloc _
 generalize w.alloc (.cells MsgV.zero.cells.toArray 101)=w1 at r v ⊢
 have F:=(h.new v).ch
 obtain⟨B,q⟩:∃B,B=w.heap.size:=⟨_,rfl⟩
 have H:w.heap.size≤B:=by omega
 rw[←q] at r ⊢
 clear q
 have E:=qlj (m:=⟨8,c.setup.ch,0,0,zg,0,0⟩) r qm
 have f:=qk1 (m:=⟨8,c.setup.ch,0,0,zg,0,0⟩) r qm
 have z:=qb f
 have u:Upd (· = B) w1 (w1.setCells B 0 (MsgV.cells ⟨8,c.setup.ch,0,0,zg,0,0⟩)):=(Upd.refl _ _).setCells 0 _
 have C:=qb (v.then u (fun i I e=>by omega))
 clear h r f v u
 go_wp2_with (with_reducible first|(first|refine' tw1 (qh ?_) ?_|refine' tw2 (qh ?_) ?_);rotate_left|refine' tw3 (qh ?_)|rfl|apply tn|refine' tw4 ?_)
 refine bodyPost_ret (results_cell_row rfl _ _ B _ _ _ _ rfl (qa z) Tryz.underlying101 rfl (by rw[List.size_toArray,MsgV.len _ qm];exact Tryz.infoMsg)) rfl ?_
 exact⟨rfl,qa C⟩
def qny(ch:Int):MsgV:=⟨8,ch,0,0,zg,0,0⟩
end
section
open Go.RowKit
def qu(h:List Int):List Value:=h.map (Value.int .u8)
theorem qal(h:List Int):(qu h).length=h.length:=by simp[qu]
theorem qor(h:List Int):∀v∈qu h,v.oneCell'=true:=by
 intro v f;obtain⟨x,_,rfl⟩:=List.mem_map.1 f;rfl
def zab:Sem Value:=Instr.alloc 35 true (.tuple #[])
theorem qaj:Instr.alloc 35 true (.tuple #[])=zab:=rfl
theorem qcn(w:World):zab.run Tryz.prog w = .ok (.pointer (some ⟨w.heap.size,0,none⟩)) (w.alloc (.cells (qu zg).toArray 35)):=by kernel_rfl
def qy0(p:Array (Nat × Value)):Sem Value:=Instr.build 35 p
theorem qar(p:Array (Nat × Value)):Instr.build 35 p=qy0 p:=rfl
theorem qdm(w:World):(qy0 #[]).run Tryz.prog w = .ok (.agg (qu zg).toArray) w:=run_build w _ _ _ (by kernel_rfl)
structure HsB(w:World)(b:Nat)(h:List Int):Prop where
 at_:w.heap[b]? = some (.cells (qu h).toArray 35 (0,0))
 len:h.length=32
theorem HsB.upd{S:Nat→Prop}{w w':World}{b:Nat}{h:List Int}(a:HsB w b h)(u:Upd S w w')(n:¬S b):HsB w' b h:=⟨u.old a.at_ n,a.len⟩
theorem HsB.new{w w':World}{b:Nat}{h:List Int}(a:HsB w b h)(u:qq w w'):HsB w' b h:=a.upd u (fun h=>h)
theorem HsB.row{w:World}{b:Nat}{h:List Int}(a:HsB w b h):zf w b 0 32=some (qu h).toArray:=qas a.at_ 32 (by rw[List.size_toArray,qal,a.len])
theorem HsB.stOk{w:World}{b:Nat}{h:List Int}(a:HsB w b h)(k:List Int)(f:k.length=32):stOk w b 0 32 (qu k).toArray=true:=by
 have:=qem a.at_ (A:=qu k) (by rw[List.size_toArray,qal,qal,a.len,f]) (qor k);rwa [List.size_toArray,qal,a.len] at this
theorem HsB.put{w:World}{b:Nat}{h:List Int}(a:HsB w b h)(k:List Int)(f:k.length=32):HsB (w.setCells b 0 (qu k)) b k:=by
 refine⟨?_,f⟩;rw[qba a.at_ 0 _,qcz _ _ (by rw[List.size_toArray,qal,qal,a.len,f])]
theorem qb7(w:World)(h:List Int)(f:h.length=32):HsB (w.alloc (.cells (qu h).toArray 35)) w.heap.size h:=⟨qj _ _,f⟩
theorem zc{w:World}{b:Nat}(l:List Value):Upd (· = b) w (w.setCells b 0 l):=(Upd.refl _ _).setCells 0 l
def qij(w:World)(k:List Int):World:=(w.alloc (.cells (qu zg).toArray 35)).setCells w.heap.size 0 (qu k)
theorem qg6(w:World)(k:List Int)(m:k.length=32):stOk (w.alloc (.cells (qu zg).toArray 35)) w.heap.size 0 32 (qu k).toArray=true∧HsB (qij w k) w.heap.size k∧qq w (qij w k):=by
 have f:=qb7 w zg qm;exact⟨f.stOk k m,f.put k m,(((Upd.refl (fun _=>False) w).alloc _)).then (zc _) (fun i q e=>by omega)⟩
attribute [local go_sem ↓ high] zl qag qaj
attribute [local go_sem] qbl qcl qcn qx
def qym(s:ByteArray):ByteArray:=strOfNums ((qen s).take 4)
theorem qq8(s:ByteArray):(qym s).size=4:=by
 unfold qym;rw[strOfNums_size,List.length_take,qb9];rfl
theorem q54(s:ByteArray)(w:World)(M:s.size≤1000000000)(J:Tabs w) :
  Calls Tryz.prog 162 #[.string s] w (qa7 (.string (qym s)) w):=by
 have f:Calls Tryz.prog 164 #[.string s] w fun e w'=>e = .returned (.agg (qu (qen s)).toArray)∧qq w w':=qgq s w M J
 have L:=qb9 s
 unfold qym
 generalize qen s=h at *
 go_enter Tryz.func162,Tryz.ntmps162
 go_wp2_with fail
 refine f.mono ?_
 rintro e w1 ⟨rfl,H⟩
 obtain⟨m,z,I⟩:=qg6 w1 h L
 have F:=qb (H.trans I)
 clear f H I
 go_upto_region 2 with fail
 change Code.wp _ _ _ _ (qij w1 h)
 generalize qij w1 h=E at z F ⊢
 generalize w1.heap.size=B at z ⊢
 clear m
 have m:(convert 95 9 (.slice (some ⟨B,0,none⟩) 4 32)).run Tryz.prog E = .ok (.string (strOfNums (h.take 4))) E:=by
  refine run_convert_bytes_arg E 95 5 Tryz.underlying95 Tryz.underlying5 B 0 4 32 (h.take 4) (by rw[List.length_take];omega) (fun i K=> ?_) 9 Tryz.underlying9;have r:i<h.length:=by omega
  rw[Nat.zero_add,qg z.at_ i,List.getElem?_toArray];unfold qu;rw[List.getElem?_map,List.getElem?_eq_getElem r];simp[List.getD,List.getElem?_eq_getElem r,List.getElem?_take,K]
 generalize v:strOfNums (h.take 4)=q at m
 have C:=qb v
 clear z v
 go_wp2_with fail
 go_ret
 exact⟨by rw[qa C];rfl,qa F⟩
end
section
open Go.RowKit
theorem qsw{f:Func}{t u v x:Tmp}(h:f.results=#[.tmp t,.tmp u,.tmp v,.tmp x])(tmps:Array Value)(P:Program)(w:World) :
  (results f tmps).run P w = .ok (.tuple #[tmps.getD t undef,tmps.getD u undef,tmps.getD v undef,tmps.getD x undef]) w:=by
 simp[results,h]
theorem q86(w:World):Calls Tryz.prog 124 #[.string ⟨#[]⟩] w (qa2 (.tuple #[.int .u64 0,.string ⟨#[]⟩,.int .i64 0,.int .i64 3]) w):=by
 go_enter Tryz.func124,Tryz.ntmps124;go_wp2_with fail;refine bodyPost_ret (qsw rfl _ _ _) rfl ?_;exact⟨rfl,Q.refl _⟩
structure JourV where
 addr:Value
 buf:Value
 many:Int
 fused:Bool
 fuse:Int
 off:Bool
def JourV.cells(j:JourV):List Value:=[j.addr,j.buf,.int .i64 j.many,.bool j.fused,.int .i64 j.fuse,.bool j.off]
def JourV.new:JourV:=⟨.pointer none,qcu,0,false,0,false⟩
def JoR(w:World)(g:Nat)(j:JourV):Prop:=w.heap[g]? = some (.cells j.cells.toArray 213 (0,0))
theorem qvc(w:World):Calls Tryz.prog 86 #[.string ⟨#[]⟩] w fun e w'=>∃g,e = .returned (.tuple #[.pointer (some ⟨g,0,none⟩),qcu])∧w.heap.size≤g∧JoR w' g .new∧qq w w':=by
 go_enter Tryz.func86,Tryz.ntmps86;go_wp2_with fail;have f:JoR (w.alloc (.cells #[.pointer none,.slice none 0 0,.int .i64 0,.bool false,.int .i64 0,.bool false] 213)) w.heap.size .new:=qj _ _;have m:qq w (w.alloc (.cells #[.pointer none,.slice none 0 0,.int .i64 0,.bool false,.int .i64 0,.bool false] 213)):=(Upd.refl _ _).alloc _;generalize w.alloc _=w1 at f m ⊢
 go_loopw [0,5] (fun z r wr=>z = .string ⟨#[]⟩∧r = .slice none 0 0∧wr=w1) (fun _ _ _=>0)
 case atStart=>exact⟨rfl,rfl,rfl⟩
 case round =>
  obtain⟨rfl,rfl,rfl⟩:=hrel;go_wp2_with fail;refine(q86 _).mono ?_;rintro e C ⟨rfl,q⟩;have i:JoR C w.heap.size .new:=q.old f;have v:=m.trans (q.upd _);clear q f m;go_wp2_with fail;go_ret2;exact⟨_,rfl,Nat.le_refl _,i,v⟩
theorem qnd(a b:ByteArray):Lib.strCells (a++b)=Lib.strCells a++Lib.strCells b:=by
 unfold Lib.strCells;rw[ByteArray.data_append,Array.toList_append,List.map_append]
structure Jo where
 bs:ByteArray
 many:Int
 fused:Bool
 fuse:Int
 off:Bool
def Jo.v(j:Jo)(p buf:Value):JourV:=⟨p,buf,j.many,j.fused,j.fuse,j.off⟩
def Jo.new:Jo:=⟨⟨#[]⟩,0,false,0,false⟩
structure JoP(w:World)(g:Nat)(S:Nat→Prop)(j:Jo)(p buf:Value):Prop where
 at_:JoR w g (j.v p buf)
 addr:p = .pointer none∨p = .pointer (some ⟨g,0,none⟩)
 row:w.ownsRow 0 5 1 buf j.bs.size (Lib.strCells j.bs)
 inG:S g
 inB:∀k,buf.ownBlock=some k→S k
 lt:∀k,S k→k<w.heap.size
def JoS(w:World)(g:Nat)(S:Nat→Prop)(j:Jo):Prop:=∃p buf,JoP w g S j p buf
section
variable {w w':World}{g:Nat}{S T:Nat→Prop}{j:Jo}{p buf:Value}
theorem JoP.upd(h:JoP w g S j p buf)(u:Upd T w w')(hd:∀k,S k→¬T k):JoP w' g S j p buf :=
 ⟨u.old h.at_ (hd g h.inG),h.addr,qac h.row u (fun k f=>hd k (h.inB k f)),h.inG,h.inB,fun k f=>Nat.lt_of_lt_of_le (h.lt k f) u.size⟩
theorem JoS.upd(h:JoS w g S j)(u:Upd T w w')(hd:∀k,S k→¬T k):JoS w' g S j:=by
 obtain⟨a,b,h⟩:=h;exact⟨a,b,h.upd u hd⟩
theorem JoS.new(h:JoS w g S j)(u:qq w w'):JoS w' g S j:=h.upd u (fun _ _ h=>h)
theorem JoS.lt(h:JoS w g S j):∀k,S k→k<w.heap.size:=by
 obtain⟨a,b,h⟩:=h;exact h.lt
theorem JoP.wider(h:JoP w g S j p buf)(f:∀k,S k→T k)(i:∀k,T k→k<w.heap.size):JoP w g T j p buf :=
 ⟨h.at_,h.addr,h.row,f g h.inG,fun k e=>f k (h.inB k e),i⟩
end
theorem JoS.fresh{w:World}{g:Nat}(h:JoR w g .new):JoS w g (· = g) .new :=
 ⟨_,_,h,.inl rfl,⟨rfl,.inl ⟨rfl,rfl⟩⟩,rfl,fun k e=>by simp[qcu,Value.ownBlock] at e,fun k e=>e▸zr h⟩
theorem Tryz.sizeBu:(Tryz.prog.info? 211).map (·.size)=some 2:=by kernel_rfl
theorem qof(g:Nat)(w:World)(m:w.cell? ⟨g,0,none⟩=some (.pointer (some ⟨g,0,none⟩))) :
  Calls Tryz.prog 163 #[.pointer (some ⟨g,0,none⟩)] w fun e w'=>e = .returned (.tuple #[])∧w=w':=by
 obtain⟨j,i,_⟩:=Option.map_eq_some_iff.1 Tryz.sizeBu
 have f:=fun w':World=>Lib.run_neq_ptr_same (P:=Tryz.prog) w' (tp:=209) ⟨g,0,none⟩ Tryz.underlying209 i
 go_enter Tryz.func163,Tryz.ntmps163
 go_wp2_with fail
 go_end0
 exact⟨rfl,rfl⟩
theorem qm9(g:Nat)(w:World)(z:w.cell? ⟨g,0,none⟩=some (.pointer none))(f:w.shape? g=some (213,6))(r:w.frozen? ⟨g,0,none⟩=false) :
  Calls Tryz.prog 163 #[.pointer (some ⟨g,0,none⟩)] w fun e w'=>e = .returned (.tuple #[])∧w'=w.setCell ⟨g,0,none⟩ (.pointer (some ⟨g,0,none⟩)):=by
 obtain⟨j,q,m⟩:=Option.map_eq_some_iff.1 Tryz.sizeBu
 have v:=Lib.run_to_unsafe (P:=Tryz.prog) w (src:=209) (dst:=292) ⟨g,0,none⟩ Tryz.underlying209 Tryz.underlying292 q (by rw[m];decide) f (by show (0:Nat)<6;decide)
 have i:=Lib.run_from_unsafe (P:=Tryz.prog) w (src:=292) (dst:=209) ⟨g,0,none⟩ Tryz.underlying292 Tryz.underlying209 q f (by kernel_rfl)
 go_enter Tryz.func163,Tryz.ntmps163
 go_wp2_with fail
 rw[run_callFunc_extern Tryz.func195 (by kernel_rfl) (by kernel_rfl) (by kernel_rfl) (e:=Extern.AbiNoEscape.same) (by kernel_rfl)]
 rw[Lib.run_noEscape]
 simp only[Result.andThen]
 rw[Oper.upon_value]
 go_wp2_with fail
 go_end0
 exact⟨rfl,rfl⟩
theorem qpr(g:Nat)(S:Nat→Prop)(j:Jo)(p buf:Value)(w:World)(h:JoP w g S j p buf) :
  Calls Tryz.prog 163 #[.pointer (some ⟨g,0,none⟩)] w fun e w'=>e = .returned (.tuple #[])∧Upd (· = g) w w'∧JoP w' g S j (.pointer (some ⟨g,0,none⟩)) buf:=by
 rcases h.addr with rfl | rfl
 ·refine(qm9 g w (qg h.at_ 0) ?_ (qv h.at_ 0)).mono ?_
  ·have:=h.at_;unfold JoR at this;simp[World.shape?,this,JourV.cells]
  ·rintro e w' ⟨rfl,rfl⟩;have u:Upd (· = g) w (w.setCell ⟨g,0,none⟩ (.pointer (some ⟨g,0,none⟩))):=(Upd.refl _ _).set1 _ _;refine⟨rfl,u,?_,.inr rfl,qac h.row u ?_,h.inG,h.inB,fun k f=>Nat.lt_of_lt_of_le (h.lt k f) u.size⟩
   ·exact qad h.at_ 0 _
   ·intro k f e;obtain⟨i,m⟩:=qa3 h.row k f;exact qbe m h.at_ (by decide) e
 ·refine(qof g w (qg h.at_ 0)).mono ?_;rintro e w' ⟨rfl,rfl⟩;exact⟨rfl,Upd.refl _ _,h⟩
theorem qv6{I:Array Oper}{rest:List Oper}{o:Oper}{a:Act}{Q:Exit→Act→World→Prop}(R:o.guard=none)(sl x:Operand)
  (ho:o.op = .call {callee:= .builtin .append,args:=#[sl,x],argTypes:=#[95,9]})
  (v:Value) (n:Nat) (xs:List Value) (w:World) (hs:a.eval sl=v) (f:w.ownsRow 0 5 1 v n xs) (s:ByteArray) (hx:a.eval x = .string s) (Z:n+s.size≤140737488355328)
  (h:∀q w',w'.ownsRow 0 5 1 q (n+s.size) (xs++Lib.strCells s)→w.grownBy w' v.ownBlock→(q.ownBlock=v.ownBlock∨q.ownBlock=some w.heap.size)→wpList Tryz.prog I Q rest (a.put o.dst q) w'):wpList Tryz.prog I Q (o::rest) a w:=by
 obtain⟨i,J,C,E,F⟩:=info_parts Tryz.infoU8
 refine wpList_plain R fun K Y=> ?_
 have M:=Tryz.underlying95
 have N:=Tryz.underlying9
 obtain⟨q,w',L,V,W,X⟩:=Lib.run_append_own_string (P:=Tryz.prog) w 0 _ _ o.type 5 i M N J C E F v n xs f s (by unfold maxLen;omega) Z (Nat.zero_le _)
 have H:q.ownBlock=v.ownBlock∨q.ownBlock=some w.heap.size:=by
  rcases f.2 with ⟨rfl,rfl⟩ | ⟨g,cap,O,rfl,a6,hg,b3,a7,a8,U⟩
  ·by_cases hm:s.size=0
   ·rw[X.2 ⟨rfl,hm⟩];exact .inl rfl
   ·have m:=run_append_nil_string (P:=Tryz.prog) w _ _ o.type 5 i (.int .u8 0) M N J C s (by omega) (by omega) (by rw[F];omega);rw[L] at m;injection m with m;rw[m];exact .inr rfl
  ·by_cases z:n+s.size≤cap
   ·have m:=Lib.run_append_room_string (P:=Tryz.prog) w _ _ o.type 5 i M N J E g n cap O hg s z (by omega);rw[L] at m;injection m with m;rw[m];exact .inl rfl
   ·have r:∀j u,xs[j]? = some u→w.cell? ((⟨g,0,none⟩:Addr).add j)=some u:=f.cells (g:=g) rfl;have b4:xs.length=n:=by simpa using f.1
    have m:=Lib.run_append_grow_string (P:=Tryz.prog) w _ _ o.type 5 i (.int .u8 0) M N J C ⟨g,0,none⟩ n cap xs (by rw[E];omega) r s (by omega) (by omega) (by rw[F];exact growslice_fits (by omega) (by omega));rw[L] at m;injection m with m;rw[m];exact .inr rfl
 unfold Oper.wp execOp
 simp only[ho,resolve,invoke,builtin,Sem.run_bind,Sem.run_pure,Result.andThen_ok,List.map_toArray,List.map_cons,List.map_nil,hs,hx,L]
 exact Y _ _ (h q w' V W H)
def Jo.more(j:Jo)(s:ByteArray):Jo:= {j with bs:=j.bs++s}
theorem q8a(g:Nat)(S:Nat→Prop)(j:Jo)(s:ByteArray)(w:World)(h:JoS w g S j)(O:j.bs.size+s.size≤140737488355328) :
  Calls Tryz.prog 125 #[.pointer (some ⟨g,0,none⟩),.string s] w fun e w'=>e = .returned (.tuple #[.int .i64 s.size,.nilIface])∧JoS w' g (Fr S w w') (j.more s)∧Upd S w w':=by
 obtain⟨p,buf,h⟩:=h
 have N:=qpr g S j p buf w h
 have J:=h.inG
 go_enter Tryz.func125,Tryz.ntmps125
 go_wp2_with fail
 refine N.mono ?_
 rintro e w1 ⟨rfl,u1,q⟩
 have c1:w1.cell? ⟨g,1,none⟩=some buf:=qg q.at_ 1
 have V:g<w1.heap.size:=zr q.at_
 have X:=qb q
 have H:=q.row
 have Y:=qb (u1.mono (T:=S) (fun k _ e=>by rw[e];exact J))
 clear N q u1 h
 go_wp2_with (at_builtin;refine qv6 rfl _ _ rfl buf _ _ _ rfl H s rfl O ?_)
 intro v' E f m F
 have q:=qa X
 have L:buf.ownBlock≠some g:=fun e=>by
  obtain⟨I,M⟩:=qa3 q.row g e;exact qbe M q.at_ (by decide) rfl
 have i:JoR E g (j.v (.pointer (some ⟨g,0,none⟩)) buf):=by
  unfold JoR;rw[m.block g V (fun e=>L e.symm)];exact q.at_
 have R:Upd S w1 E:=(Upd.refl S w1).grown m (fun k e _=>q.inB k e)
 obtain⟨r,z,cap,rfl⟩:∃r z cap,v' = .slice r z cap:=by
  rcases f.2 with ⟨W,_⟩ | ⟨g',cap,I,W,_⟩
  ·exact⟨_,_,_,W⟩
  ·exact⟨_,_,_,W⟩
 have d1:E.cell? ⟨g,1,none⟩=some buf:=qg i 1
 have f1:E.frozen? ⟨g,1,none⟩=false:=qv i 1
 have P:JoR (E.setCell ⟨g,1,none⟩ (.slice r z cap)) g ((j.more s).v (.pointer (some ⟨g,0,none⟩)) (.slice r z cap)):=qad i 1 (.slice r z cap)
 have K:Upd (· = g) E (E.setCell ⟨g,1,none⟩ (.slice r z cap)):=(Upd.refl _ _).set1 _ _
 have a7:g<E.heap.size:=zr i
 have HO:=qb f
 have HA:=qb i
 have HS:=qb P
 have U2:=qb R
 have U3:=qb K
 have U:=qb F
 clear F f i P m R K H c1 L q
 go_wp2_with fail
 go_ret2
 have q:=qa X
 have f:=qa HO
 have R:=qa U2
 have K:=qa U3
 have hU:Upd S w (E.setCell ⟨g,1,none⟩ (.slice r z cap)):=((qa Y).trans R).trans (K.mono (fun k _ e=>by rw[e];exact J))
 have a8:=(qa Y).size
 have Z:=R.size
 have a6:=K.size
 refine⟨rfl,⟨.pointer (some ⟨g,0,none⟩),.slice r z cap,qa HS,.inr rfl,?_,.inl J,?_,?_⟩,hU⟩
 ·have:(E.setCell ⟨g,1,none⟩ (.slice r z cap)).ownsRow 0 5 1 (.slice r z cap) (j.bs.size+s.size) (Lib.strCells j.bs++Lib.strCells s):=qac f K (fun k C e=>by
   obtain⟨I,M⟩:=qa3 f k C;exact qbe M (qa HA) (by decide) e)
  show (E.setCell ⟨g,1,none⟩ (.slice r z cap)).ownsRow 0 5 1 (.slice r z cap) (j.bs++s).size (Lib.strCells (j.bs++s));rw[ByteArray.size_append,qnd];exact this
 ·intro k C;rcases qa U with e | e
  ·rw[e] at C;exact .inl (q.inB k C)
  ·rw[e] at C;injection C with C;obtain⟨I,M⟩:=qa3 f k (by rw[e,C]);have:=zr M;exact .inr ⟨by omega,by omega⟩
 ·rintro k (C | C)
  ·have:=q.lt k C;omega
  ·omega
theorem qxj(g:Nat)(S:Nat→Prop)(j:Jo)(s:ByteArray)(w:World)(h:JoS w g S j)(E:j.fused=false)(i:j.bs.size+s.size≤140737488355328) :
  Calls Tryz.prog 149 #[.pointer (some ⟨g,0,none⟩),.string s] w fun e w'=>e = .returned (.bool true)∧JoS w' g (Fr S w w') (j.more s)∧Upd S w w':=by
 have f:=q8a g S j s w h i
 obtain⟨p,buf,q⟩:=h
 have C:w.cell? ⟨g,3,none⟩=some (.bool false):=E▸qg q.at_ 3
 clear q
 go_enter Tryz.func149,Tryz.ntmps149
 go_wp2_with fail
 refine f.mono ?_
 rintro e w1 ⟨rfl,m,r⟩
 have v:=qb m
 have z:=qb r
 clear f m r C
 go_wp2_with fail
 go_ret
 exact⟨rfl,qa v,qa z⟩
end
end Go.Proofs.YtfmkdoachjgjbaaGreatDoor
