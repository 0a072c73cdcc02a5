/-
  shut, Shut, Offer.
-/
import Derived.Test.YtfmkdoachjgjbaaGreatDoorMae
import Derived.Test.YtfmkdoachjgjbaaGreatDoorMac
import Derived.Test.YtfmkdoachjgjbaaGreatDoorTxt
import Derived.Lib.Builder
import Derived.Lib.AppendStr
set_option maxRecDepth 100000
set_option maxHeartbeats 2000000
set_option linter.unusedVariables false
set_option linter.unusedSimpArgs false
namespace Go.Proofs.YtfmkdoachjgjbaaGreatDoor
section
open Go.RowKit
theorem Tryz.infoHsh:(Tryz.prog.info? 35).map (·.size)=some 32:=by kernel_rfl
def za4(x:Value):Sem Value:=Instr.loadAt 35 x
theorem zl(x:Value):Instr.loadAt 35 x=za4 x:=rfl
theorem qbf(b o:Nat)(w:World):(za4 (.pointer (some ⟨b,o,none⟩))).run Tryz.prog w=match zj w b o 32 with | some A=> .ok (.agg A) w | none=>qc6 Tryz.prog 35 w b o :=
 zy 35 32 _ Tryz.underlying35 rfl Tryz.infoHsh b o w
def zbf(x v:Value):Sem Unit:=Instr.storeAt 35 x v
theorem qaa(x v:Value):Instr.storeAt 35 x v=zbf x v:=rfl
theorem qci(b o:Nat)(A:Array Value)(w:World):(zbf (.pointer (some ⟨b,o,none⟩)) (.agg A)).run Tryz.prog w=if stOk w b o 32 A=true then .ok () (w.setCells b o A.toList) else qd3 Tryz.prog 35 w b o A :=
 qap 35 32 Tryz.infoHsh b o A w
theorem Tryz.infoHtl:(Tryz.prog.info? 41).map (·.size)=some 35:=by kernel_rfl
def za5(x:Value):Sem Value:=Instr.loadAt 41 x
theorem qd7(x:Value):Instr.loadAt 41 x=za5 x:=rfl
theorem qlt(b o:Nat)(w:World):(za5 (.pointer (some ⟨b,o,none⟩))).run Tryz.prog w=match zj w b o 35 with | some A=> .ok (.agg A) w | none=>qc6 Tryz.prog 41 w b o :=
 zy 41 35 _ Tryz.underlying41 rfl Tryz.infoHtl b o w
def zbg(x v:Value):Sem Unit:=Instr.storeAt 41 x v
theorem qmr(x v:Value):Instr.storeAt 41 x v=zbg x v:=rfl
theorem q73(b o:Nat)(A:Array Value)(w:World):(zbg (.pointer (some ⟨b,o,none⟩)) (.agg A)).run Tryz.prog w=if stOk w b o 35 A=true then .ok () (w.setCells b o A.toList) else qd3 Tryz.prog 41 w b o A :=
 qap 41 35 Tryz.infoHtl b o A w
def zar:Sem Value:=Instr.alloc 41 true (.tuple #[])
theorem ql4:Instr.alloc 41 true (.tuple #[])=zar:=rfl
theorem q3z(w:World):zar.run Tryz.prog w = .ok (.pointer (some ⟨w.heap.size,0,none⟩)) (w.alloc (.cells (qm Htlc.zero).toArray 41)):=by kernel_rfl
attribute [local go_sem ↓ high] qy qz zb zf zl
attribute [local go_sem] qas qat qax zx qma qv qbf
theorem q3e(g:Nat)(c:ChanV)(w:World)(h:ChR w g c) :
  Calls Tryz.prog 117 #[.pointer (some ⟨g,0,none⟩)] w (qa1 (.agg (MsgV.cells ⟨8,c.setup.ch,0,0,ze,0,0⟩).toArray) w):=by
 go_enter Tryz.func117,Tryz.ntmps117
 go_upto_region 1 with fail
 have q:(w.alloc (.cells MsgV.zero.cells.toArray 101)).heap[w.heap.size]? = some (.cells MsgV.zero.cells.toArray 101 (0,0)):=qh _ _
 have v:qu w (w.alloc (.cells MsgV.zero.cells.toArray 101)):=(Upd.refl _ _).alloc _
 generalize w.alloc (.cells MsgV.zero.cells.toArray 101)=w1 at q v ⊢
 have F:=(h.new v).ch
 obtain⟨B,p⟩:∃B,B=w.heap.size:=⟨_,rfl⟩
 have H:w.heap.size≤B:=by omega
 rw[←p] at q ⊢
 clear p
 have E:=qi9 (m:=⟨8,c.setup.ch,0,0,ze,0,0⟩) q ql
 have f:=qiy (m:=⟨8,c.setup.ch,0,0,ze,0,0⟩) q ql
 have z:=qb f
 have u:Upd (· = B) w1 (w1.setCells B 0 (MsgV.cells ⟨8,c.setup.ch,0,0,ze,0,0⟩)):=(Upd.refl _ _).setCells 0 _
 have C:=qb (v.then u (fun i I e=>by omega))
 clear h q f v u
 go_wp2_with ((with_reducible first|rfl|refine' ut ?_ ?_;rotate_left|refine' uu ?_)<;>intros)
 refine bodyPost_ret (results_cell_row rfl _ _ B _ _ _ _ rfl (qa z) Tryz.underlying101 rfl (by rw[List.size_toArray,MsgV.len _ ql];exact Tryz.infoMsg)) rfl ?_
 exact⟨rfl,qa C⟩
def qnq(ch:Int):MsgV:=⟨8,ch,0,0,ze,0,0⟩
end
section
open Go.RowKit
def qs(h:List Int):List Value:=h.map (Value.int .u8)
theorem qaj(h:List Int):(qs h).length=h.length:=by simp[qs]
theorem qon(h:List Int):∀v∈qs h,v.oneCell'=true:=by
 intro v f;obtain⟨x,_,rfl⟩:=List.mem_map.1 f;rfl
def zaq:Sem Value:=Instr.alloc 35 true (.tuple #[])
theorem qad:Instr.alloc 35 true (.tuple #[])=zaq:=rfl
theorem qcj(w:World):zaq.run Tryz.prog w = .ok (.pointer (some ⟨w.heap.size,0,none⟩)) (w.alloc (.cells (qs ze).toArray 35)):=by kernel_rfl
def qyx(p:Array (Nat × Value)):Sem Value:=Instr.build 35 p
theorem qam(p:Array (Nat × Value)):Instr.build 35 p=qyx p:=rfl
theorem qdh(w:World):(qyx #[]).run Tryz.prog w = .ok (.agg (qs ze).toArray) w:=run_build w _ _ _ (by kernel_rfl)
structure HsB(w:World)(b:Nat)(h:List Int):Prop where
 at_:w.heap[b]? = some (.cells (qs h).toArray 35 (0,0))
 len:h.length=32
theorem HsB.upd{S:Nat→Prop}{w w':World}{b:Nat}{h:List Int}(a:HsB w b h)(u:Upd S w w')(n:¬S b):HsB w' b h:=⟨u.old a.at_ n,a.len⟩
theorem HsB.new{w w':World}{b:Nat}{h:List Int}(a:HsB w b h)(u:qu w w'):HsB w' b h:=a.upd u (fun h=>h)
theorem HsB.row{w:World}{b:Nat}{h:List Int}(a:HsB w b h):zj w b 0 32=some (qs h).toArray:=qai a.at_ 32 (by rw[List.size_toArray,qaj,a.len])
theorem HsB.stOk{w:World}{b:Nat}{h:List Int}(a:HsB w b h)(k:List Int)(f:k.length=32):stOk w b 0 32 (qs k).toArray=true:=by
 have:=qej a.at_ (A:=qs k) (by rw[List.size_toArray,qaj,qaj,a.len,f]) (qon k);rwa [List.size_toArray,qaj,a.len] at this
theorem HsB.put{w:World}{b:Nat}{h:List Int}(a:HsB w b h)(k:List Int)(f:k.length=32):HsB (w.setCells b 0 (qs k)) b k:=by
 refine⟨?_,f⟩;rw[qa3 a.at_ 0 _,qcv _ _ (by rw[List.size_toArray,qaj,qaj,a.len,f])]
theorem qb4(w:World)(h:List Int)(f:h.length=32):HsB (w.alloc (.cells (qs h).toArray 35)) w.heap.size h:=⟨qh _ _,f⟩
theorem qx{w:World}{b:Nat}(l:List Value):Upd (· = b) w (w.setCells b 0 l):=(Upd.refl _ _).setCells 0 l
def qif(w:World)(k:List Int):World:=(w.alloc (.cells (qs ze).toArray 35)).setCells w.heap.size 0 (qs k)
theorem qg0(w:World)(k:List Int)(m:k.length=32):stOk (w.alloc (.cells (qs ze).toArray 35)) w.heap.size 0 32 (qs k).toArray=true∧HsB (qif w k) w.heap.size k∧qu w (qif w k):=by
 have f:=qb4 w ze ql;exact⟨f.stOk k m,f.put k m,(((Upd.refl (fun _=>False) w).alloc _)).then (qx _) (fun i p e=>by omega)⟩
attribute [local go_sem ↓ high] zl qaa qad
attribute [local go_sem] qbf qci qcj qv
def qyh(s:ByteArray):ByteArray:=strOfNums ((qek s).take 4)
theorem qq6(s:ByteArray):(qyh s).size=4:=by
 unfold qyh;rw[strOfNums_size,List.length_take,qb5];rfl
theorem q6g(s:ByteArray)(w:World)(M:s.size≤1000000000)(J:Tabs w) :
  Calls Tryz.prog 162 #[.string s] w (qa1 (.string (qyh s)) w):=by
 have f:Calls Tryz.prog 164 #[.string s] w fun e w'=>e = .returned (.agg (qs (qek s)).toArray)∧qu w w':=qgn s w M J
 have L:=qb5 s
 unfold qyh
 generalize qek s=h at *
 go_enter Tryz.func162,Tryz.ntmps162
 go_wp2_with fail
 refine f.mono ?_
 rintro e w1 ⟨rfl,H⟩
 obtain⟨m,z,I⟩:=qg0 w1 h L
 have F:=qb (H.trans I)
 clear f H I
 go_upto_region 2 with fail
 change Code.wp _ _ _ _ (qif w1 h)
 generalize qif w1 h=E at z F ⊢
 generalize w1.heap.size=B at z ⊢
 clear m
 have m:(convert 95 9 (.slice (some ⟨B,0,none⟩) 4 32)).run Tryz.prog E = .ok (.string (strOfNums (h.take 4))) E:=by
  refine run_convert_bytes_arg E 95 5 Tryz.underlying95 Tryz.underlying5 B 0 4 32 (h.take 4) (by rw[List.length_take];omega) (fun i K=> ?_) 9 Tryz.underlying9;have p:i<h.length:=by omega
  rw[Nat.zero_add,qg z.at_ i,List.getElem?_toArray];unfold qs;rw[List.getElem?_map,List.getElem?_eq_getElem p];simp[List.getD,List.getElem?_eq_getElem p,List.getElem?_take,K]
 generalize v:strOfNums (h.take 4)=q at m
 have C:=qb v
 clear z v
 go_wp2_with fail
 go_ret
 exact⟨by rw[qa C];rfl,qa F⟩
end
section
open Go.RowKit
theorem qsu{f:Func}{t u v x:Tmp}(h:f.results=#[.tmp t,.tmp u,.tmp v,.tmp x])(tmps:Array Value)(P:Program)(w:World) :
  (results f tmps).run P w = .ok (.tuple #[tmps.getD t undef,tmps.getD u undef,tmps.getD v undef,tmps.getD x undef]) w:=by
 simp[results,h]
theorem q9k(w:World):Calls Tryz.prog 124 #[.string ⟨#[]⟩] w (qay (.tuple #[.int .u64 0,.string ⟨#[]⟩,.int .i64 0,.int .i64 3]) w):=by
 go_enter Tryz.func124,Tryz.ntmps124;go_wp2_with fail;refine bodyPost_ret (qsu rfl _ _ _) rfl ?_;exact⟨rfl,Q.refl _⟩
structure JourV where
 addr:Value
 buf:Value
 many:Int
 fused:Bool
 fuse:Int
 off:Bool
def JourV.cells(j:JourV):List Value:=[j.addr,j.buf,.int .i64 j.many,.bool j.fused,.int .i64 j.fuse,.bool j.off]
def JourV.new:JourV:=⟨.pointer none,qbw,0,false,0,false⟩
def JoR(w:World)(g:Nat)(j:JourV):Prop:=w.heap[g]? = some (.cells j.cells.toArray 213 (0,0))
theorem qvd(w:World):Calls Tryz.prog 86 #[.string ⟨#[]⟩] w fun e w'=>∃g,e = .returned (.tuple #[.pointer (some ⟨g,0,none⟩),qbw])∧w.heap.size≤g∧JoR w' g .new∧qu w w':=by
 go_enter Tryz.func86,Tryz.ntmps86;go_wp2_with fail;have f:JoR (w.alloc (.cells #[.pointer none,.slice none 0 0,.int .i64 0,.bool false,.int .i64 0,.bool false] 213)) w.heap.size .new:=qh _ _;have m:qu w (w.alloc (.cells #[.pointer none,.slice none 0 0,.int .i64 0,.bool false,.int .i64 0,.bool false] 213)):=(Upd.refl _ _).alloc _;generalize w.alloc _=w1 at f m ⊢
 go_loopw [0,5] (fun z q wr=>z = .string ⟨#[]⟩∧q = .slice none 0 0∧wr=w1) (fun _ _ _=>0)
 case atStart=>exact⟨rfl,rfl,rfl⟩
 case round =>
  obtain⟨rfl,rfl,rfl⟩:=hrel;go_wp2_with fail;refine(q9k _).mono ?_;rintro e C ⟨rfl,p⟩;have i:JoR C w.heap.size .new:=p.old f;have v:=m.trans (p.upd _);clear p f m;go_wp2_with fail;go_ret2;exact⟨_,rfl,Nat.le_refl _,i,v⟩
theorem qm5(a b:ByteArray):Lib.strCells (a++b)=Lib.strCells a++Lib.strCells b:=by
 unfold Lib.strCells;rw[ByteArray.data_append,Array.toList_append,List.map_append]
structure Jo where
 bs:ByteArray
 many:Int
 fused:Bool
 fuse:Int
 off:Bool
def Jo.v(j:Jo)(p buf:Value):JourV:=⟨p,buf,j.many,j.fused,j.fuse,j.off⟩
def Jo.new:Jo:=⟨⟨#[]⟩,0,false,0,false⟩
structure JoP(w:World)(g:Nat)(S:Nat→Prop)(j:Jo)(p buf:Value):Prop where
 at_:JoR w g (j.v p buf)
 addr:p = .pointer none∨p = .pointer (some ⟨g,0,none⟩)
 row:w.ownsRow 0 5 1 buf j.bs.size (Lib.strCells j.bs)
 inG:S g
 inB:∀k,buf.ownBlock=some k→S k
 lt:∀k,S k→k<w.heap.size
def JoS(w:World)(g:Nat)(S:Nat→Prop)(j:Jo):Prop:=∃p buf,JoP w g S j p buf
section
variable {w w':World}{g:Nat}{S T:Nat→Prop}{j:Jo}{p buf:Value}
theorem JoP.upd(h:JoP w g S j p buf)(u:Upd T w w')(hd:∀k,S k→¬T k):JoP w' g S j p buf :=
 ⟨u.old h.at_ (hd g h.inG),h.addr,zq h.row u (fun k f=>hd k (h.inB k f)),h.inG,h.inB,fun k f=>Nat.lt_of_lt_of_le (h.lt k f) u.size⟩
theorem JoS.upd(h:JoS w g S j)(u:Upd T w w')(hd:∀k,S k→¬T k):JoS w' g S j:=by
 obtain⟨a,b,h⟩:=h;exact⟨a,b,h.upd u hd⟩
theorem JoS.new(h:JoS w g S j)(u:qu w w'):JoS w' g S j:=h.upd u (fun _ _ h=>h)
theorem JoS.lt(h:JoS w g S j):∀k,S k→k<w.heap.size:=by
 obtain⟨a,b,h⟩:=h;exact h.lt
theorem JoP.wider(h:JoP w g S j p buf)(f:∀k,S k→T k)(i:∀k,T k→k<w.heap.size):JoP w g T j p buf :=
 ⟨h.at_,h.addr,h.row,f g h.inG,fun k e=>f k (h.inB k e),i⟩
end
theorem JoS.fresh{w:World}{g:Nat}(h:JoR w g .new):JoS w g (· = g) .new :=
 ⟨_,_,h,.inl rfl,⟨rfl,.inl ⟨rfl,rfl⟩⟩,rfl,fun k e=>by simp[qbw,Value.ownBlock] at e,fun k e=>e▸zr h⟩
theorem Tryz.sizeBu:(Tryz.prog.info? 211).map (·.size)=some 2:=by kernel_rfl
theorem qn8(g:Nat)(w:World)(m:w.cell? ⟨g,0,none⟩=some (.pointer (some ⟨g,0,none⟩))) :
  Calls Tryz.prog 163 #[.pointer (some ⟨g,0,none⟩)] w fun e w'=>e = .returned (.tuple #[])∧w=w':=by
 obtain⟨j,i,_⟩:=Option.map_eq_some_iff.1 Tryz.sizeBu
 have f:=fun w':World=>Lib.run_neq_ptr_same (P:=Tryz.prog) w' (tp:=209) ⟨g,0,none⟩ Tryz.underlying209 i
 go_enter Tryz.func163,Tryz.ntmps163
 go_wp2_with fail
 go_end0
 exact⟨rfl,rfl⟩
theorem qm0(g:Nat)(w:World)(C:w.cell? ⟨g,0,none⟩=some (.pointer none))(f:w.shape? g=some (213,6))(v:w.frozen? ⟨g,0,none⟩=false) :
  Calls Tryz.prog 163 #[.pointer (some ⟨g,0,none⟩)] w fun e w'=>e = .returned (.tuple #[])∧w'=w.setCell ⟨g,0,none⟩ (.pointer (some ⟨g,0,none⟩)):=by
 obtain⟨j,q,m⟩:=Option.map_eq_some_iff.1 Tryz.sizeBu
 have z:=Lib.run_to_unsafe (P:=Tryz.prog) w (src:=209) (dst:=292) ⟨g,0,none⟩ Tryz.underlying209 Tryz.underlying292 q (by rw[m];decide) f (by show (0:Nat)<6;decide)
 have i:=Lib.run_from_unsafe (P:=Tryz.prog) w (src:=292) (dst:=209) ⟨g,0,none⟩ Tryz.underlying292 Tryz.underlying209 q f (by kernel_rfl)
 go_enter Tryz.func163,Tryz.ntmps163
 go_wp2_with fail
 rw[run_callFunc_extern Tryz.func195 (by kernel_rfl) (by kernel_rfl) (by kernel_rfl) (e:=Extern.AbiNoEscape.same) (by kernel_rfl)]
 rw[Lib.run_noEscape]
 simp only[Result.andThen]
 rw[Oper.upon_value]
 go_wp2_with fail
 go_end0
 exact⟨rfl,rfl⟩
theorem qpn(g:Nat)(S:Nat→Prop)(j:Jo)(p buf:Value)(w:World)(h:JoP w g S j p buf) :
  Calls Tryz.prog 163 #[.pointer (some ⟨g,0,none⟩)] w fun e w'=>e = .returned (.tuple #[])∧Upd (· = g) w w'∧JoP w' g S j (.pointer (some ⟨g,0,none⟩)) buf:=by
 rcases h.addr with rfl | rfl
 ·refine(qm0 g w (qg h.at_ 0) ?_ (qo h.at_ 0)).mono ?_
  ·have:=h.at_;unfold JoR at this;simp[World.shape?,this,JourV.cells]
  ·rintro e w' ⟨rfl,rfl⟩;have u:Upd (· = g) w (w.setCell ⟨g,0,none⟩ (.pointer (some ⟨g,0,none⟩))):=(Upd.refl _ _).set1 _ _;refine⟨rfl,u,?_,.inr rfl,zq h.row u ?_,h.inG,h.inB,fun k f=>Nat.lt_of_lt_of_le (h.lt k f) u.size⟩
   ·exact zt h.at_ 0 _
   ·intro k f e;obtain⟨i,m⟩:=qab h.row k f;exact qao m h.at_ (by decide) e
 ·refine(qn8 g w (qg h.at_ 0)).mono ?_;rintro e w' ⟨rfl,rfl⟩;exact⟨rfl,Upd.refl _ _,h⟩
theorem qv7{J:Array Oper}{rest:List Oper}{o:Oper}{a:Act}{Q:Exit→Act→World→Prop}(U:o.guard=none)(sl x:Operand)
  (ho:o.op = .call {callee:= .builtin .append,args:=#[sl,x],argTypes:=#[95,9]})
  (v:Value) (n:Nat) (xs:List Value) (w:World) (hs:a.eval sl=v) (f:w.ownsRow 0 5 1 v n xs) (s:ByteArray) (hx:a.eval x = .string s) (hb:n+s.size≤140737488355328)
  (h:∀q w',w'.ownsRow 0 5 1 q (n+s.size) (xs++Lib.strCells s)→w.grownBy w' v.ownBlock→(q.ownBlock=v.ownBlock∨q.ownBlock=some w.heap.size)→wpList Tryz.prog J Q rest (a.put o.dst q) w'):wpList Tryz.prog J Q (o::rest) a w:=by
 obtain⟨i,L,E,F,H⟩:=info_parts Tryz.infoU8
 refine wpList_plain U fun K Z=> ?_
 have N:=Tryz.underlying95
 have O:=Tryz.underlying9
 obtain⟨q,w',M,W,X,Y⟩:=Lib.run_append_own_string (P:=Tryz.prog) w 0 _ _ o.type 5 i N O L E F H v n xs f s (by unfold maxLen;omega) hb (Nat.zero_le _)
 have I:q.ownBlock=v.ownBlock∨q.ownBlock=some w.heap.size:=by
  rcases f.2 with ⟨rfl,rfl⟩ | ⟨g,cap,R,rfl,a6,hg,b3,a7,a8,V⟩
  ·by_cases hm:s.size=0
   ·rw[Y.2 ⟨rfl,hm⟩];exact .inl rfl
   ·have m:=run_append_nil_string (P:=Tryz.prog) w _ _ o.type 5 i (.int .u8 0) N O L E s (by omega) (by omega) (by rw[H];omega);rw[M] at m;injection m with m;rw[m];exact .inr rfl
  ·by_cases C:n+s.size≤cap
   ·have m:=Lib.run_append_room_string (P:=Tryz.prog) w _ _ o.type 5 i N O L F g n cap R hg s C (by omega);rw[M] at m;injection m with m;rw[m];exact .inl rfl
   ·have z:∀j u,xs[j]? = some u→w.cell? ((⟨g,0,none⟩:Addr).add j)=some u:=f.cells (g:=g) rfl;have b4:xs.length=n:=by simpa using f.1
    have m:=Lib.run_append_grow_string (P:=Tryz.prog) w _ _ o.type 5 i (.int .u8 0) N O L E ⟨g,0,none⟩ n cap xs (by rw[F];omega) z s (by omega) (by omega) (by rw[H];exact growslice_fits (by omega) (by omega));rw[M] at m;injection m with m;rw[m];exact .inr rfl
 unfold Oper.wp execOp
 simp only[ho,resolve,invoke,builtin,Sem.run_bind,Sem.run_pure,Result.andThen_ok,List.map_toArray,List.map_cons,List.map_nil,hs,hx,M]
 exact Z _ _ (h q w' W X I)
def Jo.more(j:Jo)(s:ByteArray):Jo:= {j with bs:=j.bs++s}
theorem q8n(g:Nat)(S:Nat→Prop)(j:Jo)(s:ByteArray)(w:World)(h:JoS w g S j)(P:j.bs.size+s.size≤140737488355328) :
  Calls Tryz.prog 125 #[.pointer (some ⟨g,0,none⟩),.string s] w fun e w'=>e = .returned (.tuple #[.int .i64 s.size,.nilIface])∧JoS w' g (Fr S w w') (j.more s)∧Upd S w w':=by
 obtain⟨p,buf,h⟩:=h
 have O:=qpn g S j p buf w h
 have K:=h.inG
 go_enter Tryz.func125,Tryz.ntmps125
 go_wp2_with fail
 refine O.mono ?_
 rintro e w1 ⟨rfl,u1,q⟩
 have c1:w1.cell? ⟨g,1,none⟩=some buf:=qg q.at_ 1
 have W:g<w1.heap.size:=zr q.at_
 have Y:=qb q
 have I:=q.row
 have Z:=qb (u1.mono (T:=S) (fun k _ e=>by rw[e];exact K))
 clear O q u1 h
 go_wp2_with (at_builtin;refine qv7 rfl _ _ rfl buf _ _ _ rfl I s rfl P ?_)
 intro v' F f m H
 have q:=qa Y
 have M:buf.ownBlock≠some g:=fun e=>by
  obtain⟨J,N⟩:=qab q.row g e;exact qao N q.at_ (by decide) rfl
 have i:JoR F g (j.v (.pointer (some ⟨g,0,none⟩)) buf):=by
  unfold JoR;rw[m.block g W (fun e=>M e.symm)];exact q.at_
 have U:Upd S w1 F:=(Upd.refl S w1).grown m (fun k e _=>q.inB k e)
 obtain⟨z,C,cap,rfl⟩:∃z C cap,v' = .slice z C cap:=by
  rcases f.2 with ⟨X,_⟩ | ⟨g',cap,J,X,_⟩
  ·exact⟨_,_,_,X⟩
  ·exact⟨_,_,_,X⟩
 have d1:F.cell? ⟨g,1,none⟩=some buf:=qg i 1
 have f1:F.frozen? ⟨g,1,none⟩=false:=qo i 1
 have R:JoR (F.setCell ⟨g,1,none⟩ (.slice z C cap)) g ((j.more s).v (.pointer (some ⟨g,0,none⟩)) (.slice z C cap)):=zt i 1 (.slice z C cap)
 have L:Upd (· = g) F (F.setCell ⟨g,1,none⟩ (.slice z C cap)):=(Upd.refl _ _).set1 _ _
 have a8:g<F.heap.size:=zr i
 have HO:=qb f
 have HA:=qb i
 have HS:=qb R
 have U2:=qb U
 have U3:=qb L
 have V:=qb H
 clear H f i R m U L I c1 M q
 go_wp2_with fail
 go_ret2
 have q:=qa Y
 have f:=qa HO
 have U:=qa U2
 have L:=qa U3
 have hU:Upd S w (F.setCell ⟨g,1,none⟩ (.slice z C cap)):=((qa Z).trans U).trans (L.mono (fun k _ e=>by rw[e];exact K))
 have b3:=(qa Z).size
 have a6:=U.size
 have a7:=L.size
 refine⟨rfl,⟨.pointer (some ⟨g,0,none⟩),.slice z C cap,qa HS,.inr rfl,?_,.inl K,?_,?_⟩,hU⟩
 ·have:(F.setCell ⟨g,1,none⟩ (.slice z C cap)).ownsRow 0 5 1 (.slice z C cap) (j.bs.size+s.size) (Lib.strCells j.bs++Lib.strCells s):=zq f L (fun k E e=>by
   obtain⟨J,N⟩:=qab f k E;exact qao N (qa HA) (by decide) e)
  show (F.setCell ⟨g,1,none⟩ (.slice z C cap)).ownsRow 0 5 1 (.slice z C cap) (j.bs++s).size (Lib.strCells (j.bs++s));rw[ByteArray.size_append,qm5];exact this
 ·intro k E;rcases qa V with e | e
  ·rw[e] at E;exact .inl (q.inB k E)
  ·rw[e] at E;injection E with E;obtain⟨J,N⟩:=qab f k (by rw[e,E]);have:=zr N;exact .inr ⟨by omega,by omega⟩
 ·rintro k (E | E)
  ·have:=q.lt k E;omega
  ·omega
theorem qxc(g:Nat)(S:Nat→Prop)(j:Jo)(s:ByteArray)(w:World)(h:JoS w g S j)(F:j.fused=false)(i:j.bs.size+s.size≤140737488355328) :
  Calls Tryz.prog 149 #[.pointer (some ⟨g,0,none⟩),.string s] w fun e w'=>e = .returned (.bool true)∧JoS w' g (Fr S w w') (j.more s)∧Upd S w w':=by
 have f:=q8n g S j s w h i
 obtain⟨p,buf,q⟩:=h
 have E:w.cell? ⟨g,3,none⟩=some (.bool false):=F▸qg q.at_ 3
 clear q
 go_enter Tryz.func149,Tryz.ntmps149
 go_wp2_with fail
 refine f.mono ?_
 rintro e w1 ⟨rfl,m,v⟩
 have z:=qb m
 have C:=qb v
 clear f m v E
 go_wp2_with fail
 go_ret
 exact⟨rfl,qa z,qa C⟩
attribute [local go_sem ↓ high] qy qz zb zf zl qd7 qmr ql4 ql6 ql9 qgg
attribute [local go_sem] qas qat qax zx qv qbf qlt q73 q3z qwc qyy qry qn0
def qbq(c:Ch)(n ex:Int):Int :=
 if c.k.shutSaid=true then 135 else if n=0 then 1 else if ex<1∨1073741824<ex then 131 else if 8≤qe7 true c.xs then 130 else if c.loc<n then 61 else 0
def qfr(c:Ch)(n:Int)(h:Vector Int 32)(ex:Int):Live:=⟨⟨c.k.nextOwn,n,h,ex⟩,true,0,false⟩
def Ch.offered(c:Ch)(n:Int)(h:Vector Int 32)(ex:Int):Ch :=
 {c with loc:=c.loc-n,k:= {c.k with nextOwn:=IntKind.u64.wrap (c.k.nextOwn+1)},xs:=c.xs++[qfr c n h ex]}
def qi5(c:Ch)(n:Int)(h:Vector Int 32)(ex:Int):MsgV:=⟨3,0,c.k.nextOwn,n,h.toList,ex,0⟩
def Ch.offer(c:Ch)(n:Int)(h:Vector Int 32)(ex:Int):Ch × MsgV × Int :=
 if qbq c n ex=0 then ((c.offered n h ex).say (qi5 c n h ex),(qi5 c n h ex).on c.s.ch,0) else (c,MsgV.zero,qbq c n ex)
theorem qh1:∃i z b,Tryz.prog.info? 69=some i∧i.zero=some z∧i.size=38∧i.bytes=b∧z.cells.size=38∧b≤1000:=by
 obtain⟨i,z,m,v,q⟩:=qcn Tryz.zeroLive';have f:(Tryz.prog.info? 69).map (fun i=>decide (i.bytes≤1000))=some true:=by kernel_rfl
 have p:=Tryz.infoLive;rw[m,Option.map_some,Option.some.injEq] at f p;exact⟨i,z,i.bytes,m,v,p,rfl,by rw[q];rfl,of_decide_eq_true f⟩
theorem ChP.appLive{E q:World}{g:Nat}{S:Nat→Prop}{c:Ch}{N Y R:Value}(h:ChP E g S c N Y R)(x:Live)(hx:LiveOk x)(a6:c.xs.length<1000000)(i:Value)(p:q.ownsRow 0 69 38 i (c.xs.length+1) (c.xs.flatMap qk++qk x))(V:E.grownBy q N.ownBlock)(z:i.ownBlock=N.ownBlock∨i.ownBlock=some E.heap.size) :
  ChP (q.setCell ⟨g,47,none⟩ i) g (Fr S E (q.setCell ⟨g,47,none⟩ i)) {c with xs:=c.xs++[x]} i Y R∧Upd S E (q.setCell ⟨g,47,none⟩ i):=by
 have P:Upd (fun k=>N.ownBlock=some k) E q:=(Upd.refl _ _).grown V (fun k f _=>f)
 have F:∀ {T:TypeId} {v:Value} {n:Nat} {xs:List Value},T≠126→E.ownsRow 0 T 38 v n xs→∀k,v.ownBlock=some k→k≠g:=by
  intro T v n xs hT K k f e;obtain⟨H,J⟩:=qab K k f;exact qao J h.at_ hT e
 have I:=P.old h.at_ (fun e=>F (by decide) h.live g e rfl)
 have O:Upd (· = g) q (q.setCell ⟨g,47,none⟩ i):=(Upd.refl _ _).set1 47 _
 have m:=zt I 47 i
 rw[qvi c N Y R h.ok.s.seed (c.xs++[x])] at m
 have W:∀k,i.ownBlock=some k→k≠g:=by
  intro k f;rcases z with e | e
  ·rw[e] at f;exact F (by decide) h.live k f
  ·rw[e] at f;injection f with f;have:=zr h.at_;omega
 have L:∀k,i.ownBlock=some k→k<q.heap.size:=fun k f=>by
  obtain⟨H,J⟩:=qab p k f;exact zr J
 have hz:=P.size
 have X:=O.size
 generalize q.setCell ⟨g,47,none⟩ i=wE at O m X ⊢
 have C:∀ {v:Value} {n:Nat} {xs:List Value},E.ownsRow 0 101 38 v n xs→wE.ownsRow 0 101 38 v n xs:=by
  intro v n xs K;refine zq (zq K P (fun k f e=> ?_)) O (fun k f e=>F (by decide) K k f e);obtain⟨H,J⟩:=qab K k f;obtain⟨Z,U⟩:=qab h.live k e;exact qao J U (by decide) rfl
 refine⟨⟨m,⟨h.ok.s,h.ok.signed,h.ok.heard,h.ok.nextOwn,h.ok.nextTheirs,h.ok.loc,h.ok.rem,?_,?_,h.ok.shelf,h.ok.news,h.ok.last,h.ok.many⟩,?_,C h.news,C h.last,.inl h.inG,?_,fun k e=> .inl (h.inN k e),fun k e=> .inl (h.inA k e),h.sep,?_⟩,(P.mono (fun k _ e=>h.inL k e)).trans (O.mono (fun k _ e=>by rw[e];exact h.inG))⟩
 ·intro y M;rcases List.mem_append.1 M with M | M
  ·exact h.ok.xs y M
  ·rw[List.mem_singleton.1 M];exact hx
 ·show (c.xs++[x]).length≤1000000;rw[List.length_append];simp;omega
 ·show wE.ownsRow 0 _ 38 i (c.xs++[x]).length ((c.xs++[x]).flatMap qk);rw[List.length_append,List.flatMap_append];have:[x].flatMap qk=qk x:=by simp
  rw[this];exact zq p O (fun k f e=>W k f e)
 ·intro k f;rcases z with e | e
  ·rw[e] at f;exact .inl (h.inL k f)
  ·have:=L k f;rw[e] at f;injection f with f;exact .inr ⟨by omega,by omega⟩
 ·rintro k (f | f)
  ·have:=h.lt k f;omega
  ·exact f.2
theorem q2g(g:Nat)(S:Nat→Prop)(c:Ch)(n:Int)(O:Vector Int 32)(ex:Int)(w:World)(h:ChS w g S c)(hn:0≤n∧n<18446744073709551616)(hx : -9223372036854775808≤ex∧ex≤9223372036854775807)(hb:∀b∈O.toList,0≤b∧b≤255)(e7:c.news.length<1000000∧c.xs.length<1000000) :
  Calls Tryz.prog 47 #[.pointer (some ⟨g,0,none⟩),.int .u64 n,.agg (O.toList.map (Value.int .u8)).toArray,.int .i64 ex] w fun e w' =>
   e = .returned (.tuple #[.agg (c.offer n O ex).2.1.cells.toArray,.int .i64 (c.offer n O ex).2.2])∧ChS w' g (Fr S w w') (c.offer n O ex).1∧Upd S w w':=by
 obtain⟨lv,nv,av,h⟩:=h
 have b5:(O.toList.map (Value.int .u8)).length=32:=by simp
 obtain⟨H,f7⟩:∃H,H=O.toList.map (Value.int .u8):=⟨_,rfl⟩
 rw[←f7] at b5 ⊢
 have g8:=qb f7
 clear f7
 go_enter Tryz.func47,Tryz.ntmps47
 go_upto_region 1 with fail
 have d2:((w.alloc (.cells H.toArray 35)).alloc (.cells MsgV.zero.cells.toArray 101)).heap[w.heap.size]? = some (.cells H.toArray 35 (0,0)):=qq (qh _ _) _
 have d3:((w.alloc (.cells H.toArray 35)).alloc (.cells MsgV.zero.cells.toArray 101)).heap[w.heap.size+1]? = some (.cells MsgV.zero.cells.toArray 101 (0,0)):=by
  have:=qh (w.alloc (.cells H.toArray 35)) (.cells MsgV.zero.cells.toArray 101);rwa [World.size_alloc] at this
 have nA:qu w ((w.alloc (.cells H.toArray 35)).alloc (.cells MsgV.zero.cells.toArray 101)):=((Upd.refl _ _).alloc _).alloc _
 generalize (w.alloc (.cells H.toArray 35)).alloc (.cells MsgV.zero.cells.toArray 101)=wA at d2 d3 nA ⊢
 obtain⟨A,h6⟩:∃A,A=w.heap.size:=⟨_,rfl⟩
 obtain⟨B,i0⟩:∃B,B=w.heap.size+1:=⟨_,rfl⟩
 rw[←i0] at d3 ⊢
 rw[←h6] at d2 ⊢
 have hA:=h.new nA
 have g2:g≠A:=by have:=h.lt g h.inG;omega
 have g3:g≠B:=by have:=h.lt g h.inG;omega
 have k6:w.heap.size≤A:=by omega
 have k7:w.heap.size≤B:=by omega
 have n5:B≠A:=by omega
 clear h6 i0
 have f1:wA.cell? ⟨g,42,none⟩=some (.bool c.k.shutSaid):=hA.toR.shutSaid
 have c7:wA.cell? ⟨g,45,none⟩=some (.int .u64 c.loc):=hA.toR.loc
 have bad:∀(W:World),qu w W→W.heap[B]? = some (.cells MsgV.zero.cells.toArray 101 (0,0)) →
   stOk W B 0 38 MsgV.zero.cells.toArray=true∧(W.setCells B 0 MsgV.zero.cells).heap[B]? = some (.cells MsgV.zero.cells.toArray 101 (0,0))∧ChS (W.setCells B 0 MsgV.zero.cells) g (Fr S w (W.setCells B 0 MsgV.zero.cells)) c∧Upd S w (W.setCells B 0 MsgV.zero.cells):=by
  intro W nW hW
  have u:Upd (· = B) W (W.setCells B 0 MsgV.zero.cells):=(Upd.refl _ _).setCells 0 _
  exact⟨qi9 (m:=MsgV.zero) hW ql,qiy (m:=MsgV.zero) hW ql,((h.new nW).upd u (fun k M e=>by have:=h.lt k M;omega)).fr w,((nW.mono (fun _ _ h=>h.elim)).then u (fun i hi e=>by omega))⟩
 have P:=qb bad
 have H0:=qb h
 have HA:=qb hA
 have NA:=qb nA
 have BA:=qb d2
 have BB:=qb d3
 clear bad h hA nA d2 d3
 by_cases e1:c.k.shutSaid=true
 ·have N:qbq c n ex=135:=by unfold qbq;rw[if_pos e1]
  rw[e1] at f1;have J:c.offer n O ex=(c,MsgV.zero,135):=by unfold Ch.offer;rw[if_neg (by rw[N];decide),N]
  have HO:=qb J;clear J N;go_upto_region 2 with fail;obtain⟨V,f,F,X⟩:=qa P wA (qa NA) (qa BB);have HF:=qb f;have HC:=qb F;have HU:=qb X;clear f F X;go_wp2_with fail;refine bodyPost_ret (qw rfl _ _ B _ _ _ _ rfl (qa HF) Tryz.underlying101 rfl (by rw[List.size_toArray,MsgV.len _ ql];exact Tryz.infoMsg)) rfl ?_;rw[qa HO];exact⟨rfl,qa HC,qa HU⟩
 have j9:c.k.shutSaid=false:=by simpa using e1
 rw[j9] at f1
 by_cases e2:n=0
 ·have N:qbq c n ex=1:=by unfold qbq;rw[if_neg e1,if_pos e2]
  have J:c.offer n O ex=(c,MsgV.zero,1):=by unfold Ch.offer;rw[if_neg (by rw[N];decide),N]
  have HO:=qb J;clear J N;go_upto_region 4 with fail;obtain⟨V,f,F,X⟩:=qa P wA (qa NA) (qa BB);have HF:=qb f;have HC:=qb F;have HU:=qb X;clear f F X;go_wp2_with fail;refine bodyPost_ret (qw rfl _ _ B _ _ _ _ rfl (qa HF) Tryz.underlying101 rfl (by rw[List.size_toArray,MsgV.len _ ql];exact Tryz.infoMsg)) rfl ?_;rw[qa HO];exact⟨rfl,qa HC,qa HU⟩
 by_cases e3:ex<1
 ·have N:qbq c n ex=131:=by unfold qbq;rw[if_neg e1,if_neg e2,if_pos (.inl e3)]
  have J:c.offer n O ex=(c,MsgV.zero,131):=by unfold Ch.offer;rw[if_neg (by rw[N];decide),N]
  have HO:=qb J;clear J N;go_upto_region 6 with fail;obtain⟨V,f,F,X⟩:=qa P wA (qa NA) (qa BB);have HF:=qb f;have HC:=qb F;have HU:=qb X;clear f F X;go_wp2_with fail;refine bodyPost_ret (qw rfl _ _ B _ _ _ _ rfl (qa HF) Tryz.underlying101 rfl (by rw[List.size_toArray,MsgV.len _ ql];exact Tryz.infoMsg)) rfl ?_;rw[qa HO];exact⟨rfl,qa HC,qa HU⟩
 by_cases e4:1073741824<ex
 ·have N:qbq c n ex=131:=by unfold qbq;rw[if_neg e1,if_neg e2,if_pos (.inr e4)]
  have J:c.offer n O ex=(c,MsgV.zero,131):=by unfold Ch.offer;rw[if_neg (by rw[N];decide),N]
  have HO:=qb J;clear J N;go_upto_region 6 with fail;obtain⟨V,f,F,X⟩:=qa P wA (qa NA) (qa BB);have HF:=qb f;have HC:=qb F;have HU:=qb X;clear f F X;go_wp2_with fail;refine bodyPost_ret (qw rfl _ _ B _ _ _ _ rfl (qa HF) Tryz.underlying101 rfl (by rw[List.size_toArray,MsgV.len _ ql];exact Tryz.infoMsg)) rfl ?_;rw[qa HO];exact⟨rfl,qa HC,qa HU⟩
 have j1:=qqs g S c true wA ⟨lv,nv,av,qa HA⟩
 go_wp2_with fail
 refine j1.mono ?_
 rintro e w1 ⟨rfl,n1⟩
 have h1:=n1.cell c7 (fun h=>h)
 have d9:=(qa NA).trans n1
 have h7:=n1.old (qa BB) (fun h=>h)
 have N1:=qb d9
 have B1:=qb h7
 have M1:=qb n1
 clear c7 f1 j1 n1 d9 h7
 by_cases e5:8≤qe7 true c.xs
 ·have N:qbq c n ex=130:=by unfold qbq;rw[if_neg e1,if_neg e2,if_neg (by omega),if_pos e5]
  have k0:8≤(qe7 true c.xs:Int):=by omega
  have J:c.offer n O ex=(c,MsgV.zero,130):=by unfold Ch.offer;rw[if_neg (by rw[N];decide),N]
  have HO:=qb J;clear J N;go_upto_region 8 with fail;obtain⟨V,f,F,X⟩:=qa P w1 (qa N1) (qa B1);have HF:=qb f;have HC:=qb F;have HU:=qb X;clear f F X;go_wp2_with fail;refine bodyPost_ret (qw rfl _ _ B _ _ _ _ rfl (qa HF) Tryz.underlying101 rfl (by rw[List.size_toArray,MsgV.len _ ql];exact Tryz.infoMsg)) rfl ?_;rw[qa HO];exact⟨rfl,qa HC,qa HU⟩
 have k0:¬8≤(qe7 true c.xs:Int):=by omega
 by_cases e6:c.loc<n
 ·have N:qbq c n ex=61:=by unfold qbq;rw[if_neg e1,if_neg e2,if_neg (by omega),if_neg e5,if_pos e6]
  have J:c.offer n O ex=(c,MsgV.zero,61):=by unfold Ch.offer;rw[if_neg (by rw[N];decide),N]
  have HO:=qb J;clear J N;go_upto_region 10 with fail;obtain⟨V,f,F,X⟩:=qa P w1 (qa N1) (qa B1);have HF:=qb f;have HC:=qb F;have HU:=qb X;clear f F X;go_wp2_with fail;refine bodyPost_ret (qw rfl _ _ B _ _ _ _ rfl (qa HF) Tryz.underlying101 rfl (by rw[List.size_toArray,MsgV.len _ ql];exact Tryz.infoMsg)) rfl ?_;rw[qa HO];exact⟨rfl,qa HC,qa HU⟩
 have N:qbq c n ex=0:=by unfold qbq;rw[if_neg e1,if_neg e2,if_neg (by omega),if_neg e5,if_neg e6]
 have J:c.offer n O ex=((c.offered n O ex).say (qi5 c n O ex),(qi5 c n O ex).on c.s.ch,0):=by unfold Ch.offer;rw[if_pos N]
 have HO:=qb J
 clear J N
 go_upto_region 11 with fail
 have c9:=(qa HA).new (qa M1)
 have f3:=(qa M1).old (qa BA) (fun h=>h)
 have a8:w1.cell? ⟨g,40,none⟩=some (.int .u64 c.k.nextOwn):=c9.toR.nextOwn
 have rA:zj w1 A 0 32=some H.toArray:=qai f3 32 (by rw[List.size_toArray,b5])
 have i1:w1.drew.cell? ⟨g,40,none⟩=some (.int .u64 c.k.nextOwn)∧zj w1.drew A 0 32=some H.toArray:=⟨a8,rA⟩
 obtain⟨K,hK⟩:∃K:List Value,K = .int .u64 c.k.nextOwn :: .int .u64 n::(H++[.int .i64 ex]):=⟨_,rfl⟩
 have b6:K.length=35:=by rw[hK];simp[b5]
 have i3:K=qm (qfr c n O ex).h:=by rw[hK,qa g8];rfl
 have nD:qu w1 (w1.alloc (.cells (qm Htlc.zero).toArray 41)).drew:=((Upd.refl _ _).alloc _).drew
 have b7:(w1.alloc (.cells (qm Htlc.zero).toArray 41)).drew.heap[w1.heap.size]? = some (.cells (qm Htlc.zero).toArray 41 (0,0)):=qh w1 _
 have i2:w.heap.size≤w1.heap.size:=(qa N1).size
 have d5:g≠w1.heap.size:=by have:=zr c9.at_;omega
 have h5:A≠w1.heap.size:=by have:=zr f3;omega
 have h9:B≠w1.heap.size:=by have:=zr (qa B1);omega
 have j6:=qb c9
 have g9:=qb i3
 have HK:=qb hK
 have a7:Hid ((w1.alloc (.cells (qm Htlc.zero).toArray 41)).drew.cell? ⟨g,40,none⟩=some (.int .u64 c.k.nextOwn)∧zj (w1.alloc (.cells (qm Htlc.zero).toArray 41)).drew A 0 32=some H.toArray):=qb ⟨nD.cell a8 (fun h=>h),qbc rA nD (fun h=>h)⟩
 clear c9 f3 a8 rA i3 hK
 refine qaw (fun w'=>w'.cell? ⟨g,40,none⟩=some (.int .u64 c.k.nextOwn)∧zj w' A 0 32=some H.toArray) [4,6] (.of [0,1,2,3,4,5,6,7,8,9,10]) (by kernel_rfl) (by kernel_rfl) i1 ?_
 simp only[Plan.of]
 go_wp2_with ((with_reducible first|rfl|refine' ut ?_ ?_;rotate_left|refine' uu ?_)<;>intros)
 refine⟨qa a7,?_⟩
 obtain⟨E,hE⟩:∃E,E=w1.heap.size:=⟨_,rfl⟩
 rw[←hE] at b7 i2 d5 h5 h9 ⊢
 clear hE i1
 have f4:=nD.old ((qa M1).old (qa BA) (fun h=>h)) (fun h=>h)
 have f5:=nD.old (qa B1) (fun h=>h)
 have f9:=(qa j6).new nD
 have g5:=(qa N1).trans nD
 rw[←qa HK]
 generalize (w1.alloc (.cells (qm Htlc.zero).toArray 41)).drew=wD at b7 f4 f5 f9 g5 ⊢
 have f8:∀v∈K,v.oneCell'=true:=by rw[qa g9];exact qix _
 have V:stOk wD E 0 35 K.toArray=true:=qej (C:=(qm Htlc.zero).toArray) b7 (by rw[b6];rfl) f8
 have i6:(wD.setCells E 0 K).heap[E]? = some (.cells K.toArray 41 (0,0)):=by
  rw[qa3 b7 0 K,qcv _ _ (by rw[b6];rfl)]
 have uE:Upd (· = E) wD (wD.setCells E 0 K):=(Upd.refl _ _).setCells 0 K
 have h4:=uE.old f4 h5
 have h8:=uE.old f5 h9
 have z:=f9.upd uE (fun k M e=>by have:=(qa H0).lt k M;omega)
 have g6:qu w (wD.setCells E 0 K):=g5.then uE (fun i hi e=>by omega)
 have P3:=qb z
 have A3:=qb h4
 have B3:=qb h8
 have E3:=qb i6
 clear f4 f5 f9 g5 b7 i6 uE h4 h8 z nD h1 a7
 go_upto_region 12 with ((with_reducible first|rfl|refine' ut ?_ ?_;rotate_left|refine' uu ?_)<;>intros)
 clear V
 generalize wD.setCells E 0 K=w3 at P3 A3 B3 E3 g6 ⊢
 have z:=qa P3
 have c7:w3.cell? ⟨g,45,none⟩=some (.int .u64 c.loc):=z.toR.loc
 have k4:w3.frozen? ⟨g,45,none⟩=false:=qo z.at_ 45
 have n6:=z.ok.loc
 have n7:=z.ok.nextOwn
 have m0:IntKind.u64.wrap (c.loc-n)=c.loc-n:=qel (by omega) (by omega)
 obtain⟨c1,U⟩:∃c1:Ch,c1 = {c with loc:=c.loc-n} := ⟨_,rfl⟩
 have e8:c1.Ok:=by
  rw[U];exact⟨z.ok.s,z.ok.signed,z.ok.heard,z.ok.nextOwn,z.ok.nextTheirs,show 0≤c.loc-n∧c.loc-n<_ by omega,z.ok.rem,z.ok.xs,z.ok.few,z.ok.shelf,z.ok.news,z.ok.last,z.ok.many⟩
 have I:=z.put (i:=45) (x:= .int .u64 (c.loc-n)) (c':=c1) (by rw[U];exact qzn c lv nv av z.ok.s.seed (c.loc-n)) e8 (by rw[U]) (by rw[U]) (by rw[U])
 have u4:Upd (· = g) w3 (w3.setCell ⟨g,45,none⟩ (.int .u64 (c.loc-n))):=(Upd.refl _ _).set1 45 _
 have P4:=qb I
 have A4:=qb (u4.old (qa A3) (fun e=>g2 e.symm))
 have B4:=qb (u4.old (qa B3) (fun e=>g3 e.symm))
 have E4:=qb (u4.old (qa E3) (fun e=>d5 e.symm))
 have U4:=qb ((g6.mono (fun _ _ h=>h.elim)).trans (u4.mono (fun k _ e=>by rw[e];exact(qa H0).inG)):Upd S w _)
 clear z e8 I u4 P3 A3 B3 E3 g6
 go_upto_region 13 with ((with_reducible first|rfl|refine' ut ?_ ?_;rotate_left|refine' uu ?_)<;>intros)
 clear c7 k4 m0
 generalize w3.setCell ⟨g,45,none⟩ (.int .u64 (c.loc-n))=w4 at P4 A4 B4 E4 U4 ⊢
 have I:=qa P4
 have l7:c1.k=c.k:=by rw[U]
 have a8:w4.cell? ⟨g,40,none⟩=some (.int .u64 c.k.nextOwn):=by rw[←l7];exact I.toR.nextOwn
 have k3:w4.frozen? ⟨g,40,none⟩=false:=qo I.at_ 40
 obtain⟨T,c8⟩:∃x,x=IntKind.u64.wrap (c.k.nextOwn+1):=⟨_,rfl⟩
 have i5:0≤T∧T<18446744073709551616:=by rw[c8,IntKind.wrap_u64];omega
 have m3:IntKind.u64.wrap (c.k.nextOwn+1)=T:=c8.symm
 obtain⟨c2,Z⟩:∃c2:Ch,c2 = {c1 with k:= {c1.k with nextOwn:=T}} := ⟨_,rfl⟩
 have e9:c2.Ok:=by
  rw[Z];exact⟨I.ok.s,I.ok.signed,I.ok.heard,i5,I.ok.nextTheirs,I.ok.loc,I.ok.rem,I.ok.xs,I.ok.few,I.ok.shelf,I.ok.news,I.ok.last,I.ok.many⟩
 have Y:=I.put (i:=40) (x:= .int .u64 T) (c':=c2) (by rw[Z];exact qvj c1 lv nv av I.ok.s.seed T) e9 (by rw[Z]) (by rw[Z]) (by rw[Z])
 have u5:Upd (· = g) w4 (w4.setCell ⟨g,40,none⟩ (.int .u64 T)):=(Upd.refl _ _).set1 40 _
 have P5:=qb Y
 have A5:=qb (u5.old (qa A4) (fun e=>g2 e.symm))
 have B5:=qb (u5.old (qa B4) (fun e=>g3 e.symm))
 have E5:=qb (u5.old (qa E4) (fun e=>d5 e.symm))
 have U5:=qb ((qa U4).trans (u5.mono (fun k _ e=>by rw[e];exact(qa H0).inG)))
 have a7:=qb U
 have g7:=qb Z
 have j5:=qb c8
 clear I e9 Y u5 P4 A4 B4 E4 U4 U Z c8
 go_upto_region 14 with ((with_reducible first|rfl|refine' ut ?_ ?_;rotate_left|refine' uu ?_)<;>intros)
 clear a8 k3 m3
 generalize w4.setCell ⟨g,40,none⟩ (.int .u64 T)=w5 at P5 A5 B5 E5 U5 ⊢
 have Y:=qa P5
 have f2:w5.drew.cell? ⟨g,47,none⟩=some lv:=Y.toR.live
 have rE:zj w5 E 0 35=some K.toArray:=qai (qa E5) 35 (by rw[List.size_toArray,b6])
 obtain⟨L,hL⟩:∃L:List Value,L=K++([.bool true,.int .i64 0,.bool false]:List Value):=⟨_,rfl⟩
 have k9:L.length=38:=by rw[hL];simp[b6]
 have i4:L=qk (qfr c n O ex):=by rw[hL,qa g9];rfl
 have l3:∀W:World,(qti #[(0,.agg K.toArray),(1,.bool true),(2,.int .i64 0)]).run Tryz.prog W = .ok (.agg L.toArray) W:=fun W=>by rw[qyy,if_pos b6,hL]
 obtain⟨i9,z9,b9,l6,j3,m5,m6,m7,l0⟩:=qh1
 obtain⟨la,n0,i8⟩:=zv Y.live
 have j2:c2.xs=c.xs:=by rw[qa g7,qa a7]
 have nF:qu w5 (w5.alloc (.cells L.toArray 69)).drew:=((Upd.refl _ _).alloc _).drew
 have d4:(w5.alloc (.cells L.toArray 69)).drew.heap[w5.heap.size]? = some (.cells L.toArray 69 (0,0)):=qh w5 _
 have P6:=qb (Y.new nF)
 have A6:=qb (nF.old (qa A5) (fun h=>h))
 have B6:=qb (nF.old (qa B5) (fun h=>h))
 have E6:=qb (nF.old (qa E5) (fun h=>h))
 have U6:=qb ((qa U5).trans (nF.mono (fun _ _ h=>h.elim)))
 have b3:=nF.cell f2 (fun h=>h)
 have HL:=qb hL
 have h0:=qb i4
 have j7:=qb j2
 clear Y P5 A5 B5 E5 U5 hL i4 j2
 refine qaw (fun w'=>w'.cell? ⟨g,47,none⟩=some lv) [4] (.of [0,1,2,3,4,5,6,7,8,9,10,11]) (by kernel_rfl) (by kernel_rfl) f2 ?_
 simp only[Plan.of]
 go_wp2_with ((with_reducible first|rfl|refine' ut ?_ ?_;rotate_left|refine' uu ?_)<;>intros)
 refine⟨trivial,?_⟩
 clear f2 nF rE l3
 have k8:w.heap.size≤w5.heap.size:=by
  have:=(qa U6).size;have e:(w5.alloc (.cells L.toArray 69)).drew.heap.size=w5.heap.size+1:=World.size_alloc _ _;have:=zr (qa E6);omega
 generalize (w5.alloc (.cells L.toArray 69)).drew=w6 at d4 P6 A6 B6 E6 U6 b3 ⊢
 generalize w5.heap.size=D at d4 k8 ⊢
 have R:=(qa P6).live
 unfold qrk at R
 rw[i8] at R
 have HN:=qb R
 clear R
 have l5:c2.xs.length<1000000:=by rw[qa j7];exact e7.2
 go_wp2_with (first | (at_builtin;refine wpList_append_own_at _ rfl (.tmp 76) (.tmp 79) 46 rfl 0 69 i9 _ 38 b9 Tryz.underlying46 l6 j3 m5 m6 m7 (by decide) _ _ _ rfl (qa HN) ⟨D,0,none⟩ 1 1 L rfl (by rw[k9]) ?c1 ?c2 ?c3 ?c4 ?c5 ?_) | ((with_reducible first|rfl|refine' ut ?_ ?_;rotate_left|refine' uu ?_)<;>intros))
 case c1=>exact World.news_of_block (cs:=L.toArray) (fr:=(0,0)) d4
 case c2=>rw[qa h0];exact qef _
 case c3=>unfold maxLen;omega
 case c4=>have:=Nat.mul_le_mul (show c2.xs.length+1≤1000000 by omega) l0;omega
 case c5=>omega
 intro v' wE a6 d6 _ b8
 obtain⟨a',h3,d7⟩:=zv a6
 rw[←i8] at d6 b8
 have m4:LiveOk (qfr c n O ex):=⟨⟨⟨(qa H0).ok.nextOwn.1,by have:=(qa H0).ok.nextOwn.2;show c.k.nextOwn≤_;omega⟩,⟨hn.1,by show n≤_;omega⟩,hb,hx⟩,⟨by show (-9223372036854775808:Int)≤0;decide,by show (0:Int)≤9223372036854775807;decide⟩⟩
 have d1:=(qa P6).appLive (qfr c n O ex) m4 l5 v' (by rw[←qa h0];exact a6) d6 b8
 have uE:Upd (fun k=>lv.ownBlock=some k) w6 wE:=(Upd.refl _ _).grown d6 (fun k M _=>M)
 have d0:=(qa H0).lt
 have l8:∀k,lv.ownBlock=some k→k<w.heap.size:=fun k M=>d0 k ((qa H0).inL k M)
 have uG:Upd (· = g) wE (wE.setCell ⟨g,47,none⟩ v'):=(Upd.refl _ _).set1 47 _
 have d8:∀ {k:Nat} {o:Obj},w.heap.size≤k→k≠g→w6.heap[k]? = some o→(wE.setCell ⟨g,47,none⟩ v').heap[k]? = some o:=fun M hg ho=>uG.old (uE.old ho (fun e=>by have:=l8 _ e;omega)) hg
 have A7:=qb (d8 k6 (fun e=>g2 e.symm) (qa A6))
 have B7:=qb (d8 k7 (fun e=>g3 e.symm) (qa B6))
 have E7:=qb (d8 i2 (fun e=>d5 e.symm) (qa E6))
 have e0:=uE.old (qa P6).at_ (fun e=>by
  obtain⟨j8,hc⟩:=qab (qa P6).live g e;exact qao (qa P6).at_ hc (by decide) rfl)
 have k5:wE.frozen? ⟨g,47,none⟩=false:=qo e0 47
 have h2:wE.cell? ⟨g,47,none⟩=some lv:=uE.cell b3 (fun e=>by
  obtain⟨j8,hc⟩:=qab (qa P6).live g e;exact qao (qa P6).at_ hc (by decide) rfl)
 have U7:=qb ((qa U6).trans d1.2)
 have P7:=qb d1.1
 have f0:=qb d1.2.size
 have m8:=qb (qa U6).size
 have b4:=qb (zr (qa B6))
 have n3:=qb d7
 rw[d7] at A7 B7 E7 U7 P7 f0
 clear a6 d6 b8 d1 uE uG d8 e0 b3 d4 A6 B6 E6 HN
 rw[d7]
 clear d7
 go_upto_region 15 with ((with_reducible first|rfl|refine' ut ?_ ?_;rotate_left|refine' uu ?_)<;>intros)
 clear h2 k5
 generalize m2:wE.setCell ⟨g,47,none⟩ (.slice a' (c2.xs.length+1) h3)=w7 at A7 B7 E7 U7 P7 f0 ⊢
 clear m2
 have dE:w7.cell? ⟨E,0,none⟩=some (.int .u64 c.k.nextOwn):=by rw[qg (qa E7),qa HK];rfl
 have rA:zj w7 A 0 32=some H.toArray:=qai (qa A7) 32 (by rw[List.size_toArray,b5])
 obtain⟨m,hm⟩:∃m,m=qi5 c n O ex:=⟨_,rfl⟩
 have j0:m.hash.length=32:=by rw[hm];show O.toList.length=32;simp
 have l4:∀W:World,(qis #[(0,.int .i64 3),(2,.int .u64 c.k.nextOwn),(3,.int .u64 n),(4,.agg H.toArray),(5,.int .i64 ex)]).run Tryz.prog W = .ok (.agg m.cells.toArray) W:=fun W=>by
  rw[qn0,if_pos b5,hm,qa g8];rfl
 obtain⟨c3,c0⟩:∃c3:Ch,c3=c.offered n O ex:=⟨_,rfl⟩
 have i7:({c2 with xs:=c2.xs++[qfr c n O ex]} : Ch)=c3:=by
  rw[c0,qa g7,qa a7,qa j5];rfl
 have g0:=qa P7
 rw[i7] at g0
 have c6:=qnp g (Fr S w6 w7) c3 m j0 w7 ⟨_,_,_,g0⟩ (by rw[c0];exact e7.1)
 have g1:c3.s.ch=c.s.ch:=by rw[c0];rfl
 rw[g1] at c6
 have n2:=qb g1
 have HM:=qb hm
 have j4:=qb c0
 clear g0 P7 hm c0 i7 g1
 go_wp2_with ((with_reducible first|rfl|refine' ut ?_ ?_;rotate_left|refine' uu ?_)<;>intros)
 refine c6.mono ?_
 rintro e w8 ⟨rfl,F,u8⟩
 have f6:=u8.old (qa B7) (fun M=>by
  rcases M with M | M
  ·have:=d0 _ M;omega
  ·have:=qa b4;omega)
 have g4:(m.on c.s.ch).hash.length=32:=j0
 have V:=qi9 f6 g4
 have f:=qiy f6 g4
 have HF:=qb f
 have u9:Upd (· = B) w8 (w8.setCells B 0 (m.on c.s.ch).cells):=(Upd.refl _ _).setCells 0 _
 have HS:=qb (And.intro F (And.intro u8 u9))
 clear f6 f F u8 u9 dE rA l4 c6
 go_wp2_with ((with_reducible first|rfl|refine' ut ?_ ?_;rotate_left|refine' uu ?_)<;>intros)
 refine bodyPost_ret (qw rfl _ _ B _ _ _ _ rfl (qa HF) Tryz.underlying101 rfl (by rw[List.size_toArray,MsgV.len _ g4];exact Tryz.infoMsg)) rfl ?_
 obtain⟨F,u8,u9⟩:=qa HS
 have m9:=qa m8
 have n8:=(qa U7).size
 have n9:=u8.size
 have j3:=u9.size
 have n4:=qa f0
 rw[qa HO,←qa HM]
 refine⟨rfl,?_,((qa U7).then u8 (fun i hi e=> ?_)).then u9 (fun i hi e=>by omega)⟩
 ·obtain⟨p,q,r,hp⟩:=F;have l9:=hp.upd u9 (fun k M e=>by
   rcases M with (M | M) | M
   ·have:=d0 k M;omega
   ·have:=qa b4;omega
   ·have:=qa b4;omega)
  refine⟨p,q,r,?_⟩;rw[←qa j4];refine l9.wider (fun k M=> ?_) (fun k M=> ?_)
  ·rcases M with (M | M) | M
   ·exact .inl M
   ·exact .inr ⟨by omega,by omega⟩
   ·exact .inr ⟨by omega,by omega⟩
  ·rcases M with M | M
   ·have:=d0 k M;omega
   ·exact M.2
 ·rcases e with e | e
  ·exact e
  ·omega
end
end Go.Proofs.YtfmkdoachjgjbaaGreatDoor
