/-
  Hear, of any message: Again too.
-/
import Derived.Test.YtjpmomdechibmaaGreatDoorHAg
import Derived.Test.YtjpmomdechibmaaGreatDoorMdh
import Derived.Test.YtjpmomdechibmaaGreatDoorCut
import Derived.Test.YtjpmomdechibmaaGreatDoorMcf
import Derived.Test.YtjpmomdechibmaaGreatDoorMca
set_option linter.unusedVariables false
set_option linter.unusedSimpArgs false
namespace Go.Proofs.YtjpmomdechibmaaGreatDoor
open Go.RowKit
def qh7(w:List MsgV)(m:MsgV)(e:Int):List MsgV:=if e=0 then w++[m] else w
def Ch.again(c:Ch):MsgV:=⟨9,c.s.ch,IntKind.u64.wrap c.k.told,0,zz,0,c.k.heard+1⟩
noncomputable def Ch.hears(c:Ch)(m:MsgV):Ch × List MsgV × Int :=
 if m.kind=9 then (if qai m=false∨m.ch≠c.s.ch then (c,[],1) else (c,(c.hearAgain m).1,(c.hearAgain m).2)) else c.hear m
theorem qy4(g:Nat)(S:Nat→Prop)(c:Ch)(m:MsgV)(l:MsgOk m)(w:World)(h:ChS w g S c)(j:qai m=true)(i:m.ch=c.s.ch)(v:m.kind=9)(t:Tb w)(f:c.last.length≤900000) :
  Calls Tryz.prog 18 #[.pointer (some ⟨g,0,none⟩),.agg m.cells.toArray] w (qf0 g S w c (c.hearAgain m).1 (c.hearAgain m).2) :=
 qi1 _ g S c _ _ _ m l w h j i (enters_of Tryz.func72 (by kernel_rfl) rfl) (fun q=>by rw[v];exact zco q) (fun W o=>qq0 g S c m l W (h.new o) (t.new o) f)
theorem qrz(g:Nat)(S:Nat→Prop)(c:Ch)(m:MsgV)(l:MsgOk m)(w:World)(h:ChS w g S c)(y:c.Inv)(q:Tb w)(v:Apart S)(C:3≤m.kind∧m.kind≤9)(i:c.last.length≤900000) :
  Calls Tryz.prog 18 #[.pointer (some ⟨g,0,none⟩),.agg m.cells.toArray] w (qf0 g S w (c.hears m).1 (c.hears m).2.1 (c.hears m).2.2):=by
 by_cases j:m.kind=9
 ·by_cases f:qai m=false∨m.ch≠c.s.ch
  ·have e:c.hears m=(c,[],1):=by unfold Ch.hears;rw[if_pos j,if_pos f]
   rw[e]
   refine(qv7 g S c m l w h f).mono ?_
   rintro e w' ⟨x,t⟩
   exact⟨_,x,qcj.nil _ _,(h.new t).frW,t.mono (fun _ _ h=>h.elim)⟩
  ·have e:c.hears m=(c,(c.hearAgain m).1,(c.hearAgain m).2):=by unfold Ch.hears;rw[if_pos j,if_neg f]
   rw[e]
   have o:qai m=true:=by
    cases z:qai m with
    | true=>rfl
    | false=>exact absurd (.inl z) f
   exact qy4 g S c m l w h o (Decidable.of_not_not (fun e=>f (.inr e))) j q i
 ·have e:c.hears m=c.hear m:=by unfold Ch.hears;rw[if_neg j]
  rw[e]
  exact q6e g S c m l w h y q v (by omega)
def Pr.en(P:Pr)(k:Nat):Ch:=if k=0 then P.a else P.b
def Pr.set(P:Pr)(k:Nat)(c:Ch):Pr:=if k=0 then {P with a:=c} else {P with b:=c}
def Pr.way(P:Pr)(k:Nat):List MsgV:=if k=0 then P.wa else P.wb
def Pr.say(P:Pr)(k:Nat)(m:MsgV)(e:Int):Pr:=if k=0 then {P with wb:=qh7 P.wb m e} else {P with wa:=qh7 P.wa m e}
noncomputable def Pr.heard0(P:Pr):Pr × Bool:=match P.wa with
 | []=>(P,false)
 | m::ms=>(⟨(P.a.hears m).1,P.b,ms,P.wb++(P.a.hears m).2.1,P.bad || decide ((P.a.hears m).2.2≠0)⟩,true)
noncomputable def Pr.heard1(P:Pr):Pr × Bool:=match P.wb with
 | []=>(P,false)
 | m::ms=>(⟨P.a,(P.b.hears m).1,P.wa++(P.b.hears m).2.1,ms,P.bad || decide ((P.b.hears m).2.2≠0)⟩,true)
noncomputable def Pr.heard(P:Pr)(k:Nat):Pr × Bool:=if k=0 then P.heard0 else P.heard1
structure HeardOk(c:Ch)(m:MsgV)(other:List MsgV):Prop where
 inv:c.Inv
 kind:3≤m.kind∧m.kind≤9
 says:∀l∈(c.hears m).2.1,MsgOk l
 few:other.length+(c.hears m).2.1.length≤1000000
 last:c.last.length≤900000
def qs4(c:Ch)(w other:List MsgV):Prop:=match w with | []=>True | m::ms=>MsgOk m∧HeardOk c m other∧ms.length<1000000
def Pr.Hok(P:Pr)(k:Nat):Prop:=if k=0 then qs4 P.a P.wa P.wb else qs4 P.b P.wb P.wa
abbrev Kp:=Nat × Array Value × TypeId
def qlh(w:World)(q:Kp):Prop:=w.heap[q.1]? = some (.cells q.2.1 q.2.2 (0,0))
def PrK(w0 w:World)(p:Nat)(g:Nat→Nat)(P:Pr)(Ks:List Kp):Prop :=
 ∃(S f i:Nat→Prop) (j l:Value),PrP w0 w p (g 0) (g 1) f i P.a P.b P.wa P.wb j l P.bad∧(∀k,(f k∨i k∨k=p∨j.ownBlock=some k∨l.ownBlock=some k)→S k)∧(∀k,S k→w0.heap.size≤k∧k<w.heap.size)∧(∀q∈Ks,¬S q.1∧qlh w q∧w0.heap.size≤q.1)∧(Ks.map (·.1)).Nodup
section
variable {w0 w w':World}{p:Nat}{g:Nat→Nat}{P P':Pr}{Ks Ks':List Kp}{q r:Kp}{S T:Nat→Prop}
theorem qlh.upd(h:qlh w q)(u:Upd T w w')(n:¬T q.1):qlh w' q:=u.old h n
theorem qlh.lt(h:qlh w q):q.1<w.heap.size:=zq h
theorem PrK.of(z:∀q∈Ks,¬S q.1∧qlh w q∧w0.heap.size≤q.1)(C:(Ks.map (·.1)).Nodup)(h:PrD w0 w' p (Fr S w w') P'∧Upd S w w'):∃g',PrK w0 w' p g' P' Ks:=by
 obtain⟨⟨o,t,l,m,F,H,y,v,x⟩,u⟩:=h
 refine⟨fun k=>if k=0 then o else t,Fr S w w',l,m,F,H,y,v,x,fun q D=> ?_,C⟩
 obtain⟨i,j,E⟩:=z q D
 refine⟨?_,j.upd u i,E⟩
 rintro (f | f)
 ·exact i f
 ·have:=j.lt
  omega
theorem PrK.toS(h:PrK w0 w p g P Ks):∃S,PrD w0 w p S P∧(∀q∈Ks,¬S q.1∧qlh w q∧w0.heap.size≤q.1)∧(Ks.map (·.1)).Nodup:=by
 obtain⟨S,f,i,v,x,t,j,l,m,o⟩:=h
 exact⟨S,⟨_,_,f,i,v,x,t,j,l⟩,m,o⟩
theorem PrK.start{x y:Nat}{t v:Nat→Prop}{a b:Ch}{wa wb:List MsgV}{F H:Value}{bad:Bool}(h:PrP w0 w p x y t v a b wa wb F H bad):∃g,PrK w0 w p g ⟨a,b,wa,wb,bad⟩ []:=by
 obtain⟨j,l,f,i,m,o,D,z,C⟩:=h.toS
 exact⟨fun k=>if k=0 then j else l,_,f,i,m,o,D,z,C,(fun q E=>by cases E),List.nodup_nil⟩
theorem PrK.new(h:PrK w0 w p g P Ks)(u:qx w w'):PrK w0 w' p g P Ks:=by
 obtain⟨S,m,o,y,z,x,t,j,f,v⟩:=h
 exact⟨S,m,o,y,z,x.new u,t,fun k l=>⟨(j k l).1,Nat.lt_of_lt_of_le (j k l).2 u.size⟩,fun q i=>⟨(f q i).1,(f q i).2.1.upd u (fun h=>h),(f q i).2.2⟩,v⟩
theorem PrK.n(h:PrK w0 w p g P Ks):qx w0 w:=by
 obtain⟨S,i,j,l,m,f,-⟩:=h
 exact f.two.n
theorem PrK.le(h:PrK w0 w p g P Ks):w0.heap.size≤w.heap.size:=h.n.size
theorem PrK.kept(h:PrK w0 w p g P Ks)(i:q∈Ks):qlh w q:=by
 obtain⟨S,j,l,x,y,v,m,o,f,t⟩:=h
 exact(f q i).2.1
theorem PrK.one(h:PrK w0 w p g P (q::Ks)):qlh w q:=h.kept (List.mem_cons_self ..)
theorem PrK.two(h:PrK w0 w p g P (q::r::Ks)):qlh w r:=h.kept (List.mem_cons_of_mem _ (List.mem_cons_self ..))
theorem PrK.drop(h:PrK w0 w p g P (q::Ks)):PrK w0 w p g P Ks:=by
 obtain⟨S,f,i,x,y,t,j,l,m,o⟩:=h
 exact⟨S,f,i,x,y,t,j,l,fun r v=>m r (List.mem_cons_of_mem _ v),(List.nodup_cons.1 o).2⟩
theorem PrK.cell(h:PrK w0 w p g P Ks){k:Nat}(l:k<2):w.cell? ⟨p,k,none⟩=some (.pointer (some ⟨g k,0,none⟩)):=by
 obtain⟨S,i,j,m,o,f,-⟩:=h
 rcases (by omega:k=0∨k=1) with rfl | rfl
 ·exact f.cell.1
 ·exact f.cell.2.1
theorem PrK.alloc(h:PrK w0 w p g P Ks)(cs:Array Value)(T:TypeId):PrK w0 (w.alloc (.cells cs T)) p g P ((w.heap.size,cs,T)::Ks):=by
 have z:=h.le
 have j:qx w (w.alloc (.cells cs T)):=(Upd.refl _ _).alloc _
 have H:=h.new j
 obtain⟨S,o,t,E,F,y,v,l,i,x⟩:=h
 refine⟨S,o,t,E,F,y.new j,v,fun k m=>⟨(l k m).1,Nat.lt_of_lt_of_le (l k m).2 j.size⟩,?_,?_⟩
 ·intro r f
  rcases List.mem_cons.1 f with rfl | f
  ·exact⟨fun D=>absurd (l _ D).2 (Nat.lt_irrefl _),qi _ _,z⟩
  ·exact⟨(i r f).1,(i r f).2.1.upd j (fun h=>h),(i r f).2.2⟩
 ·rw[List.map_cons,List.nodup_cons]
  refine⟨?_,x⟩
  intro C
  obtain⟨r,f,I⟩:=List.mem_map.1 C
  have:=(i r f).2.1.lt
  omega
theorem PrK.put{K:Nat}{m t:MsgV}(h:PrK w0 w p g P ((K,m.cells.toArray,30)::Ks))(O:m.hash.length=32)(y:t.hash.length=32):PrK w0 (w.setCells K 0 t.cells) p g P ((K,t.cells.toArray,30)::Ks):=by
 obtain⟨S,C,D,I,J,f,j,v,E,x⟩:=h
 have u:Upd (· = K) w (w.setCells K 0 t.cells):=qad _
 obtain⟨o,F,H⟩:=E _ (List.mem_cons_self ..)
 have R:PrS w0 w p S P.a P.b P.wa P.wb P.bad:=⟨_,_,C,D,I,J,f,j,v⟩
 have z:∀k,S k→k≠K:=fun k i e=>o (e▸i)
 refine⟨S,C,D,I,J,⟨f.two.put ⟨F.lt,fun k=>o (j K (.inl k)),fun k=>o (j K (.inr (.inl k)))⟩ H u,u.old f.at_ (z p (j p (by simp))),f.off.new u.size,f.ge,qq f.rowA u (fun k i=>z k (j k (by simp[i]))),qq f.rowB u (fun k i=>z k (j k (by simp[i]))),fun k i=>(f.offA k i).new u.size,fun k i=>(f.offB k i).new u.size,f.sep,f.okA,f.okB⟩,j,fun k i=>⟨(v k i).1,Nat.lt_of_lt_of_le (v k i).2 u.size⟩,?_,x⟩
 intro r l
 rcases List.mem_cons.1 l with rfl | l
 ·exact⟨o,(MsB.put ⟨F,O⟩ y).at_,H⟩
 ·obtain⟨L,M,N⟩:=E r (List.mem_cons_of_mem _ l)
  refine⟨L,M.upd u ?_,N⟩
  intro e
  rw[List.map_cons,List.nodup_cons] at x
  exact x.1 (List.mem_map.2 ⟨r,l,e⟩)
theorem PrK.end(h:PrK w0 w p g P Ks)(o:Tb w0){k:Nat}(f:k<2):∃m,ChS w (g k) m (P.en k)∧Apart m∧Tb w∧∀w' c',ChS w' (g k) (Fr m w w') c'→Upd m w w'→PrK w0 w' p g (P.set k c') Ks:=by
 obtain⟨S,t,v,I,J,i,j,D,L,E⟩:=h
 have l:∀ {w':World} {T:Nat→Prop},Upd T w w'→(∀k,T k→S k)→∀q∈Ks,¬Fr S w w' q.1∧qlh w' q∧w0.heap.size≤q.1:=by
  intro w' T u x q N
  obtain⟨z,C,K⟩:=L q N
  refine⟨?_,C.upd u (fun e=>z (x _ e)),K⟩
  rintro (H | H)
  ·exact z H
  ·have:=C.lt
   omega
 have M:=i.two.n.size
 have F:∀ {w':World},w.heap.size≤w'.heap.size→∀k,Fr S w w' k→w0.heap.size≤k∧k<w'.heap.size:=by
  rintro w' O k (f | f)
  ·exact⟨(D k f).1,by have:=(D k f).2;omega⟩
  ·exact⟨by omega,f.2⟩
 rcases (by omega:k=0∨k=1) with rfl | rfl
 ·refine⟨t,i.two.A,i.two.apA o,o.new i.two.n,fun w' c' y u=>⟨Fr S w w',Fr t w w',v,I,J,i.opA y u,?_,F u.size,l u (fun k f=>j k (.inl f)),E⟩⟩
  rintro k ((f | f) | f)
  ·exact .inl (j k (.inl f))
  ·exact .inr f
  ·exact .inl (j k (.inr f))
 ·refine⟨v,i.two.B,i.two.apB o,o.new i.two.n,fun w' c' y u=>⟨Fr S w w',t,Fr v w w',I,J,i.opB y u,?_,F u.size,l u (fun k f=>j k (.inr (.inl f))),E⟩⟩
  rintro k (f | (f | f) | f)
  ·exact .inl (j k (.inl f))
  ·exact .inl (j k (.inr (.inl f)))
  ·exact .inr f
  ·exact .inl (j k (.inr (.inr f)))
end
section
variable {w0 w:World}{p:Nat}{g:Nat→Nat}{P:Pr}{Ks:List Kp}{k:Nat}
theorem qt7(o:Tb w0)(H:PrK w0 w p g P Ks)(v:k<2)(n:Int)(h:List Int)(ex:Int)(x:h.length=32)(t:qaz h)(y:0≤n∧n<18446744073709551616)(z : -9223372036854775808≤ex∧ex≤9223372036854775807)(f:(P.en k).news.length<1000000∧(P.en k).xs.length<1000000) :
  Calls Tryz.prog 13 #[.pointer (some ⟨g k,0,none⟩),.int .u64 n,.agg (zb h).toArray,.int .i64 ex] w fun e w' =>
   e = .returned (.tuple #[.agg ((P.en k).offer n (qhx h) ex).2.1.cells.toArray,.int .i64 ((P.en k).offer n (qhx h) ex).2.2])∧PrK w0 w' p g (P.set k ((P.en k).offer n (qhx h) ex).1) Ks:=by
 obtain⟨j,l,C,D,m⟩:=H.end o v
 exact(qp5 _ j _ n h ex w l x t y z f).mono fun e w' i=>⟨i.1,m _ _ i.2.1 i.2.2⟩
theorem qpb(t:Tb w0)(H:PrK w0 w p g P Ks)(v:k<2)(id:Int)(pre:List Int)(x:pre.length=32)(f:(P.en k).news.length<1000000) :
  Calls Tryz.prog 27 #[.pointer (some ⟨g k,0,none⟩),.int .u64 id,.agg (zb pre).toArray] w fun e w' =>
   e = .returned (.tuple #[.agg ((P.en k).fulfill id pre).2.1.cells.toArray,.int .i64 ((P.en k).fulfill id pre).2.2])∧PrK w0 w' p g (P.set k ((P.en k).fulfill id pre).1) Ks:=by
 obtain⟨j,l,y,m,o⟩:=H.end t v
 exact(qv0 _ j _ id pre x w l m f).mono fun e w' i=>⟨i.1,o _ _ i.2.1 i.2.2⟩
theorem za7(o:Tb w0)(H:PrK w0 w p g P Ks)(t:k<2)(id r:Int)(f:(P.en k).news.length<1000000) :
  Calls Tryz.prog 31 #[.pointer (some ⟨g k,0,none⟩),.int .u64 id,.int .i64 r] w fun e w' =>
   e = .returned (.tuple #[.agg ((P.en k).fail id r).2.1.cells.toArray,.int .i64 ((P.en k).fail id r).2.2])∧PrK w0 w' p g (P.set k ((P.en k).fail id r).1) Ks:=by
 obtain⟨j,l,v,x,m⟩:=H.end o t
 exact(q5t _ j _ id r w l f).mono fun e w' i=>⟨i.1,m _ _ i.2.1 i.2.2⟩
theorem zdv(v:Tb w0)(H:PrK w0 w p g P Ks)(x:k<2)(f:SignOk (P.en k)) :
  Calls Tryz.prog 16 #[.pointer (some ⟨g k,0,none⟩)] w fun e w'=>e = .returned (.tuple #[.agg (P.en k).sign.2.1.cells.toArray,.int .i64 (P.en k).sign.2.2])∧PrK w0 w' p g (P.set k (P.en k).sign.1) Ks:=by
 obtain⟨j,l,m,o,t⟩:=H.end v x
 exact(qxr _ j _ w l o m f.key f.ch f.few f.xs).mono fun e w' i=>⟨i.1,t _ _ i.2.1 i.2.2⟩
theorem zdu(m:Tb w0)(H:PrK w0 w p g P Ks)(o:k<2) :
  Calls Tryz.prog 34 #[.pointer (some ⟨g k,0,none⟩)] w fun e w'=>e = .returned (.tuple #[.agg (P.en k).shut.2.1.cells.toArray,.int .i64 (P.en k).shut.2.2])∧PrK w0 w' p g (P.set k (P.en k).shut.1) Ks:=by
 obtain⟨i,j,t,v,l⟩:=H.end m o
 exact(q72 _ i _ w j).mono fun e w' f=>⟨f.1,l _ _ f.2.1 f.2.2⟩
theorem zd4(m:Tb w0)(H:PrK w0 w p g P Ks)(o:k<2) :
  Calls Tryz.prog 53 #[.pointer (some ⟨g k,0,none⟩)] w fun e w'=>(∃t v,e = .returned (.agg #[t,v]))∧PrK w0 w' p g (P.set k (P.en k).cut) Ks:=by
 obtain⟨i,j,x,y,l⟩:=H.end m o
 exact(q9d _ i _ w j).mono fun e w' f=>⟨f.1,l _ _ f.2.1 f.2.2⟩
theorem zb0(f:Tb w0)(H:PrK w0 w p g P Ks)(i:k<2) :
  Calls Tryz.prog 23 #[.pointer (some ⟨g k,0,none⟩)] w (qa5 (.agg (P.en k).again.cells.toArray) w):=by
 obtain⟨j,⟨m,nv,l,h⟩,-⟩:=H.end f i
 exact q1s _ _ w h.toR ⟨h.ok.signed.1,by have:=h.ok.signed.2;show (P.en k).k.signed<_;omega⟩ h.ok.heard
theorem qxi(H:PrK w0 w p g P Ks)(v:k<2)(m:MsgV)(n:Int)(t:MsgOk m)(f:P.wa.length<1000000∧P.wb.length<1000000) :
  Calls Tryz.prog 14 #[.pointer (some ⟨p,0,none⟩),.int .i64 (k:Int),.agg m.cells.toArray,.int .i64 n] w fun e w'=>e = .returned (.tuple #[])∧∃g',PrK w0 w' p g' (P.say k m n) Ks:=by
 obtain⟨S,o,j,l⟩:=H.toS
 rcases (by omega:k=0∨k=1) with rfl | rfl
 ·exact(q36 w0 p S P.a P.b P.wa P.wb P.bad m n t w o f.2).mono fun e w' i=>⟨i.1,PrK.of j l i.2⟩
 ·exact(q37 w0 p S P.a P.b P.wa P.wb P.bad m n t w o f.1).mono fun e w' i=>⟨i.1,PrK.of j l i.2⟩
theorem qy7(J:Tb w0)(H:PrK w0 w p g P Ks)(K:k<2)(l:P.Hok k) :
  Calls Tryz.prog 15 #[.pointer (some ⟨p,0,none⟩),.int .i64 (k:Int)] w fun e w'=>e = .returned (.bool (P.heard k).2)∧∃g',PrK w0 w' p g' (P.heard k).1 Ks:=by
 obtain⟨S,o,F,I⟩:=H.toS
 obtain⟨a,b,wa,wb,bad⟩:=P
 rcases (by omega:k=0∨k=1) with rfl | rfl
 ·cases wa with
  | nil =>
   refine(qv9 w0 p S a b wb bad w o).mono ?_
   rintro e w' ⟨i,j⟩
   exact⟨i,_,H.new j⟩
  | cons m E =>
   obtain⟨C,f,z⟩:=l
   refine(qy5 w0 J p S a b m E wb bad w o _ _ _ f.says ⟨z,f.few⟩ fun W g t y x D=>qrz g t a m C W y f.inv D x f.kind f.last).mono ?_
   rintro e w' ⟨i,v⟩
   exact⟨i,PrK.of F I v⟩
 ·cases wb with
  | nil =>
   refine(qwa w0 p S a b wa bad w o).mono ?_
   rintro e w' ⟨i,j⟩
   exact⟨i,_,H.new j⟩
  | cons m E =>
   obtain⟨C,f,z⟩:=l
   refine(qy6 w0 J p S a b m E wa bad w o _ _ _ f.says ⟨z,f.few⟩ fun W g t y x D=>qrz g t b m C W y f.inv D x f.kind f.last).mono ?_
   rintro e w' ⟨i,v⟩
   exact⟨i,PrK.of F I v⟩
end
end Go.Proofs.YtjpmomdechibmaaGreatDoor
namespace Go.Proofs.YtjpmomdechibmaaGreatDoor
open Go.RowKit Go.Sort
def qhg(I:List Item):Prop:=I.Nodup∧∀x∈I,∀y∈I,¬kl x y→¬kl y x→x=y
theorem qhg.perm{I J:List Item}(h:qhg I)(p:I.Perm J):qhg J:=⟨p.nodup_iff.1 h.1,fun x f y g=>h.2 x (p.symm.subset f) y (p.symm.subset g)⟩
theorem zax{J:List Item}(h:J.Nodup):∃f:Item→Nat,J.zipIdx=J.map fun x=>(x,f x):=by
 classical
 refine⟨fun x=>if h:∃i,J[i]? = some x then h.choose else 0,?_⟩
 apply List.ext_getElem?
 intro i
 rw[List.getElem?_zipIdx,List.getElem?_map]
 cases w:J[i]? with
 | none=>rfl
 | some x =>
  have j:∃i,J[i]? = some x:=⟨i,w⟩
  have y:=j.choose_spec
  have z:j.choose=i:=by
   obtain⟨q,m⟩:=List.getElem?_eq_some_iff.1 y
   obtain⟨t,o⟩:=List.getElem?_eq_some_iff.1 w
   have v:=List.pairwise_iff_getElem.1 h
   refine Decidable.of_not_not fun l=> ?_
   rcases Nat.lt_or_gt_of_ne l with g | g
   ·exact v _ _ q t g (m.trans o.symm)
   ·exact v _ _ t q g (o.trans m.symm)
  simp only[Option.map_some]
  rw[dif_pos j,z,Nat.zero_add]
theorem qnr{I J X:List Item}(l:qhg I)(p:I.Perm J)(h:qeq I X):qeq J X:=by
 classical
 obtain⟨M,z,C,rfl⟩:=h
 have j:(its M).Perm I:=by
  have:=z.map (·.1)
  simpa [its,List.zipIdx_map_fst] using this
 have g:(its M).Nodup:=j.nodup_iff.2 l.1
 have i:(its M).Pairwise kl:=by
  unfold its at g ⊢
  rw[List.pairwise_map]
  rw[List.Nodup,List.pairwise_map] at g
  refine List.Pairwise.imp_of_mem ?_ (g.and C)
  rintro a b v w ⟨o,m⟩
  rcases m with e | ⟨q,-⟩
  ·exact e
  ·refine Decidable.of_not_not fun t=>o ?_
   exact l.2 a.1 (j.subset (List.mem_map_of_mem v)) b.1 (j.subset (List.mem_map_of_mem w)) t q
 obtain⟨f,y⟩:=zax (p.nodup_iff.1 l.1)
 refine⟨(its M).map fun x=>(x,f x),?_,?_,?_⟩
 ·rw[y]
  exact(j.trans p).map _
 ·show List.Pairwise lt' _
  rw[List.pairwise_map]
  exact i.imp fun h=> .inl h
 ·unfold its
  rw[List.map_map]
  exact(List.map_id _).symm
theorem qk4{I J:List Item}(g:qhg I)(p:I.Perm J):qep I=qep J:=by
 classical
 by_cases h:∃X,qeq I X
 ·obtain⟨X,f⟩:=h
  rw[←qqp f,←qqp (qnr g p f)]
 ·have i:¬ ∃X,qeq J X:=fun⟨X,f⟩=>h ⟨X,qnr (g.perm p) p.symm f⟩
  unfold qep
  rw[dif_neg h,dif_neg i]
theorem q4s(a n m:Int):IntKind.u64.wrap (IntKind.u64.wrap (a+n)+m)=IntKind.u64.wrap (IntKind.u64.wrap (a+m)+n):=by
 simp only[IntKind.wrap_u64]
 omega
theorem q2w(u v:Bool)(n m:Int)(p:Int × Int):qcn v m (qcn u n p)=qcn u n (qcn v m p):=by
 unfold qcn
 cases u<;>cases v<;>simp[q4s]
theorem q4c(ours:Bool)(p:Int × Int)(x y:Live):qa9 ours (qa9 ours p x) y=qa9 ours (qa9 ours p y) x:=by
 unfold qa9
 split<;>split<;>(try split)<;>(try split)<;>first | rfl | exact q2w _ _ _ _ _ | skip
theorem qk8(ours:Bool){xs f:List Live}(p:xs.Perm f):(qz ours xs).Perm (qz ours f):=by
 unfold qz
 exact(p.filter _).map _
end Go.Proofs.YtjpmomdechibmaaGreatDoor
namespace Go.Proofs.YtjpmomdechibmaaGreatDoor
open Go.RowKit
theorem PrS.comp{w0 w1 j i:World}{p:Nat}{S:Nat→Prop}{a b v w:Ch}{wa wb l m:List MsgV}{bad f:Bool}(h:PrS w0 i p (Fr (Fr S w1 j) j i) a b wa wb bad)(z:w1.heap.size≤j.heap.size)(C:j.heap.size≤i.heap.size)(o:PrS w0 w1 p S v w l m f):PrS w0 i p (Fr S w1 i) a b wa wb bad:=by
 have F:=o.le
 obtain⟨x,y,q,t,I,J,D,H,-⟩:=h
 obtain⟨-,-,-,-,-,-,-,-,E⟩:=o
 refine⟨x,y,q,t,I,J,D,fun k g=>Fr.comp z C k (H k g),?_⟩
 rintro k (g | g)
 ·have:=E k g
  exact⟨this.1,by omega⟩
 ·exact⟨by omega,g.2⟩
theorem PrS.later{w0 w1 i g:World}{p:Nat}{S:Nat→Prop}{a b:Ch}{wa wb:List MsgV}{bad:Bool}(h:PrS w0 g p (Fr S i g) a b wa wb bad)(z:w1.heap.size≤i.heap.size)(C:i.heap.size≤g.heap.size)(y:w0.heap.size≤w1.heap.size):PrS w0 g p (Fr S w1 g) a b wa wb bad:=by
 obtain⟨m,o,j,l,w,x,q,v,t⟩:=h
 refine⟨m,o,j,l,w,x,q,?_,?_⟩
 ·intro k f
  rcases v k f with e | e
  ·exact .inl e
  ·exact .inr ⟨by omega,e.2⟩
 ·rintro k (f | f)
  ·exact t k (.inl f)
  ·exact⟨by omega,f.2⟩
noncomputable def Pr.sign0(P:Pr):Pr:= {P with a:=P.a.sign.1,wb:=if P.a.sign.2.2=0 then P.wb++[P.a.sign.2.1] else P.wb}
noncomputable def Pr.sign1(P:Pr):Pr:= {P with b:=P.b.sign.1,wa:=if P.b.sign.2.2=0 then P.wa++[P.b.sign.2.1] else P.wa}
noncomputable def Pr.round(P:Pr):Pr:=P.hears0.1.hears1.1.sign0.sign1
noncomputable def Pr.went(P:Pr):Bool:=P.hears0.1.hears1.2 || P.hears0.2 || (P.hears0.1.hears1.1.a.sign.2.2==0) || (P.hears0.1.hears1.1.sign0.b.sign.2.2==0)
structure Pr.RoundOk(P:Pr):Prop where
 ok0:P.Ok0
 ok1:P.hears0.1.Ok1
 sg0:SignOk P.hears0.1.hears1.1.a
 sg1:SignOk P.hears0.1.hears1.1.sign0.b
 ms0:MsgOk P.hears0.1.hears1.1.a.sign.2.1
 ms1:MsgOk P.hears0.1.hears1.1.sign0.b.sign.2.1
 few0:P.hears0.1.hears1.1.wb.length<1000000
 few1:P.hears0.1.hears1.1.sign0.wa.length<1000000
inductive Rests:Nat→Pr→Pr→Prop
 | out (P:Pr):Rests 0 P P
 | stop (n:Nat) (P:Pr):P.RoundOk→P.went=false→Rests (n+1) P P.round
 | step (n:Nat) (P Q:Pr):P.RoundOk→P.went=true→Rests n P.round Q→Rests (n+1) P Q
theorem qr0(i:Nat){k p d:Nat}(f:k≤p)(g:p≤d):hiB i d k=hiB i d p++hiB i p k:=by
 unfold hiB
 rw[←List.filter_append,←List.reverse_append]
 congr 2
 have e:=List.range'_append_1 (s:=k) (m:=p-k) (n:=d-p)
 rw[show k+(p-k)=p by omega,show p-k+(d-p)=d-k by omega] at e
 exact e.symm
theorem q6i{i p:Nat}(h:∀b,b<p→i.testBit b=false):hiB i p 0=[]:=by
 unfold hiB
 rw[List.filter_eq_nil_iff]
 intro b f
 rw[List.mem_reverse,List.mem_range'_1] at f
 rw[h b (by omega)]
 decide
theorem q6h{f t d p:Nat}(h:f / 2 ^ p=t / 2 ^ p):hiB f d p=hiB t d p:=by
 unfold hiB
 refine List.filter_congr fun b j=> ?_
 rw[List.mem_reverse,List.mem_range'_1] at j
 have g:=Nat.testBit_div_two_pow (n:=p) f (b-p)
 have i:=Nat.testBit_div_two_pow (n:=p) t (b-p)
 rw[show b-p+p=b by omega] at g i
 rw[←g,←i,h]
theorem q3w{f:Int}(j:qco f=true):∀b,b<qbb f→f.toNat.testBit b=false:=by
 intro b g
 unfold qbb at g
 rw[if_pos j] at g
 by_cases i:f.toNat=0
 ·rw[i];exact Nat.zero_testBit b
 ·have o:=qm2 j
  obtain⟨m,l,-⟩:=Lib.ctzFrom_spec 64 f.toNat (by omega) (by omega)
  have e:Lib.ctz 64 f.toNat=Lib.ctzFrom 64 f.toNat:=by unfold Lib.ctz;rw[if_neg i]
  rw[e] at g
  generalize Lib.ctzFrom 64 f.toNat=z at g l
  rw[l,Nat.testBit_two_pow_mul]
  simp only[Bool.and_eq_false_imp,decide_eq_true_eq]
  intro h
  omega
theorem qvp(h:List Int){f t:Int}(i:qlm f t=true):qce (qcw h f).1 f t=((qcw h t).1,0):=by
 have g:=i
 unfold qlm at g
 simp only[Bool.and_eq_true,beq_iff_eq] at g
 obtain⟨j,o,m⟩:=g
 have l:=qkr f
 unfold qce qcw
 rw[if_pos i,if_pos j,if_pos o]
 have e:qb3 (qb3 h f.toNat 16) t.toNat (qbb f)=qb3 h t.toNat 16:=by
  unfold qb3
  rw[←List.foldl_append,qr0 t.toNat (Nat.zero_le _) l,qr0 f.toNat (Nat.zero_le _) l,q6i (q3w j),q6h m,List.append_nil]
 rw[e]
def zd2(h:List Int)(k:KeptV):Prop:=qaz k.told∧(k.full=true→k.told=(qcw h k.number).1)
def qow(h:List Int)(ps:List KeptV):Prop:=∀k∈ps,zd2 h k
theorem q4j(h:List Int):qow h (List.replicate 17 .zero):=by
 intro k f
 rw[List.eq_of_mem_replicate f]
 exact⟨qdn,fun h=>by cases h⟩
theorem qnv(h:List Int)(f:qaz h)(i:Int):qaz (qcw h i).1:=by
 unfold qcw
 split
 ·exact qiu h f _ _
 ·exact qdn
theorem qzt{h:List Int}{i:Int}{k:KeptV}(g:k.told=(qcw h k.number).1):qho (qcw h i).1 i k=false:=by
 unfold qho
 cases f:qlm i k.number with
 | false =>
  have e:qce (qcw h i).1 i k.number=(zz,1):=by unfold qce;rw[if_neg (by rw[f];decide)]
  rw[e]
  rfl
 | true =>
  rw[qvp h f,g]
  simp
theorem q15{i:Int}(h:qco i=true):qlm i i=true:=by
 unfold qlm
 rw[h]
 simp
theorem zcc{h:List Int}{i:Int}{ps:List KeptV}(g:qco i=true)(l:qow h ps):qhj (qcw h i).1 i ps=0:=by
 have e:qlx (qcw h i).1 i (ps.take (qbb i))=none:=by
  unfold qlx
  rw[List.find?_eq_none]
  intro k j
  cases f:k.full with
  | false=>simp
  | true =>
   rw[qzt ((l k (List.mem_of_mem_take j)).2 f)]
   decide
 unfold qhj
 rw[q15 g,e]
 rfl
theorem q6m{h:List Int}(g:qaz h){i:Int}{ps:List KeptV}(f:qow h ps):qow h (qt2 (qcw h i).1 i ps):=by
 unfold qt2
 split
 ·intro k j
  rcases List.mem_or_eq_of_mem_set j with e | e
  ·exact f k e
  ·rw[e]
   exact⟨qnv h g i,fun _=>rfl⟩
 ·exact f
section
variable {c:Ch}{m:MsgV}
theorem q9n(i:qai m=true)(f:m.ch=c.s.ch)(g:m.kind=3):c.hear m=((c.hearAdd m).1,[],(c.hearAdd m).2):=by
 unfold Ch.hear
 rw[if_neg (by rw[i,f];simp),if_pos g]
theorem q9o(i:qai m=true)(f:m.ch=c.s.ch)(g:m.kind=4):c.hear m=((c.hearFulfill m).1,[],(c.hearFulfill m).2):=by
 unfold Ch.hear
 rw[if_neg (by rw[i,f];simp),if_neg (by omega),if_pos g]
theorem q9p(i:qai m=true)(f:m.ch=c.s.ch)(g:m.kind=5):c.hear m=((c.hearFail m).1,[],(c.hearFail m).2):=by
 unfold Ch.hear
 rw[if_neg (by rw[i,f];simp),if_neg (by omega),if_neg (by omega),if_pos g]
theorem q9q(i:qai m=true)(f:m.ch=c.s.ch)(g:m.kind=6):c.hear m=c.hearSign m:=by
 unfold Ch.hear
 rw[if_neg (by rw[i,f];simp),if_neg (by omega),if_neg (by omega),if_neg (by omega),if_pos g]
theorem q9r(i:qai m=true)(f:m.ch=c.s.ch)(g:m.kind=7):c.hear m=((c.hearRevoke m).1,[],(c.hearRevoke m).2):=by
 unfold Ch.hear
 rw[if_neg (by rw[i,f];simp),if_neg (by omega),if_neg (by omega),if_neg (by omega),if_neg (by omega),if_pos g]
theorem q9s(g:qai m=true)(f:m.ch=c.s.ch)(i:m.kind=8):c.hear m=(c.hearShut.1,[],c.hearShut.2):=by
 unfold Ch.hear
 rw[if_neg (by rw[g,f];simp),if_neg (by omega),if_neg (by omega),if_neg (by omega),if_neg (by omega),if_neg (by omega)]
end
section
variable {s:SetupV}{sg hd no nt x y k:Int}{f1 f2 rv aw:Bool}{L L1 L2:List Live}{z:Live}{sh:List KeptV}{nw la:List MsgV}{T:List Int}
end
structure HearSt(c:Ch)(m:MsgV)(c':Ch)(l:List MsgV):Prop where
 ok:MsgOk m
 eq:c.hear m=(c',l,0)
 inv:c.Inv
 kind:m.kind=3∨m.kind=4∨m.kind=5∨m.kind=6∨m.kind=7∨m.kind=8
 says:∀l'∈l,MsgOk l'
 few:l.length≤1000
structure SignSt(c c':Ch)(M:MsgV)(E:Int):Prop where
 eq:c.sign=(c',M,E)
 sok:SignOk c
 ok:MsgOk M
def qfh(c:Ch)(ws:List MsgV)(c':Ch)(l f:List MsgV)(g:Bool):Prop:=(ws=[]∧c'=c∧l=[]∧f=[]∧g=false)∨(∃m,ws=m::f∧HearSt c m c' l∧g=true)
theorem qfh.no(c:Ch):qfh c [] c [] [] false:= .inl ⟨rfl,rfl,rfl,rfl,rfl⟩
theorem qfh.yes{c c':Ch}{m:MsgV}{l ws:List MsgV}(h:HearSt c m c' l):qfh c (m::ws) c' l ws true:= .inr ⟨m,rfl,h,rfl⟩
section
variable {a b a1 b1 a2 b2:Ch}{wa wb wa1 wb2 l0 l1:List MsgV}{bad g0 g1:Bool}{Ma Mb:MsgV}{Ea Eb:Int}{Q:Pr}{n:Nat}
theorem zdl(h:qfh a wa a1 l0 wa1 g0)(f:wa.length≤1000∧wb.length≤1000):Pr.hears0 ⟨a,b,wa,wb,bad⟩=(⟨a1,b,wa1,wb++l0,bad⟩,g0)∧Pr.Ok0 ⟨a,b,wa,wb,bad⟩:=by
 rcases h with ⟨rfl,rfl,rfl,rfl,rfl⟩ | ⟨m,rfl,h,rfl⟩
 ·exact⟨show _=((⟨a1,b,[],wb++[],bad⟩:Pr),false) by rw[List.append_nil];rfl,trivial⟩
 ·refine⟨?_,h.ok,⟨h.inv,h.kind,?_,?_⟩,?_⟩
  ·show ((⟨(a.hear m).1,b,wa1,wb++(a.hear m).2.1,bad || decide ((a.hear m).2.2≠0)⟩:Pr),true)=_
   rw[h.eq]
   simp
  ·rw[h.eq];exact h.says
  ·have:=h.few
   rw[h.eq]
   show wb.length+l0.length≤_
   omega
  ·have:=f.1
   rw[List.length_cons] at this
   omega
theorem zdm(h:qfh b wb b1 l1 wb2 g1)(f:wa.length≤1000∧wb.length≤1000):Pr.hears1 ⟨a,b,wa,wb,bad⟩=(⟨a,b1,wa++l1,wb2,bad⟩,g1)∧Pr.Ok1 ⟨a,b,wa,wb,bad⟩:=by
 rcases h with ⟨rfl,rfl,rfl,rfl,rfl⟩ | ⟨m,rfl,h,rfl⟩
 ·exact⟨show _=((⟨a,b1,wa++[],[],bad⟩:Pr),false) by rw[List.append_nil];rfl,trivial⟩
 ·refine⟨?_,h.ok,⟨h.inv,h.kind,?_,?_⟩,?_⟩
  ·show ((⟨a,(b.hear m).1,wa++(b.hear m).2.1,wb2,bad || decide ((b.hear m).2.2≠0)⟩:Pr),true)=_
   rw[h.eq]
   simp
  ·rw[h.eq];exact h.says
  ·have:=h.few
   rw[h.eq]
   show wa.length+l1.length≤_
   omega
  ·have:=f.2
   rw[List.length_cons] at this
   omega
theorem q7s(w:qfh a wa a1 l0 wa1 g0)(C:qfh b (wb++l0) b1 l1 wb2 g1)(j:SignSt a1 a2 Ma Ea)(l:SignSt b1 b2 Mb Eb)(f:wa.length≤1000∧wb.length≤1000)(f1:wa1.length≤1000∧(wb++l0).length≤1000)(f2:(wa1++l1).length≤1000∧wb2.length≤1000) :
  (Pr.mk a b wa wb bad).RoundOk∧(Pr.mk a b wa wb bad).round=⟨a2,b2,if Eb=0 then wa1++l1++[Mb] else wa1++l1,if Ea=0 then wb2++[Ma] else wb2,bad⟩∧(Pr.mk a b wa wb bad).went=(g1 || g0 || (Ea==0) || (Eb==0)):=by
 obtain⟨q,D⟩:=zdl (b:=b) (bad:=bad) w f
 obtain⟨t,E⟩:=zdm (a:=a1) (bad:=bad) C f1
 have o:(Pr.mk a b wa wb bad).hears0.1=⟨a1,b,wa1,wb++l0,bad⟩:=by rw[q]
 have g:(Pr.mk a b wa wb bad).hears0.1.hears1.1=⟨a1,b1,wa1++l1,wb2,bad⟩:=by rw[o,t]
 have i:(Pr.mk a1 b1 (wa1++l1) wb2 bad).sign0=⟨a2,b1,wa1++l1,if Ea=0 then wb2++[Ma] else wb2,bad⟩:=by
  unfold Pr.sign0
  simp only[j.eq]
 have v:(Pr.mk a2 b1 (wa1++l1) (if Ea=0 then wb2++[Ma] else wb2) bad).sign1=⟨a2,b2,if Eb=0 then wa1++l1++[Mb] else wa1++l1,if Ea=0 then wb2++[Ma] else wb2,bad⟩:=by
  unfold Pr.sign1
  simp only[l.eq]
 refine⟨⟨D,?_,?_,?_,?_,?_,?_,?_⟩,?_,?_⟩
 ·rw[o];exact E
 ·rw[g];exact j.sok
 ·rw[g,i];exact l.sok
 ·rw[g];show MsgOk a1.sign.2.1;rw[j.eq];exact j.ok
 ·rw[g,i];show MsgOk b1.sign.2.1;rw[l.eq];exact l.ok
 ·rw[g];show wb2.length<_;omega
 ·rw[g,i];show (wa1++l1).length<_;omega
 ·unfold Pr.round
  rw[g,i,v]
 ·unfold Pr.went
  rw[g,i,o,t,q]
  simp only[j.eq,l.eq]
theorem go_round(g:qfh a wa a1 l0 wa1 g0)(i:qfh b (wb++l0) b1 l1 wb2 g1)(t:SignSt a1 a2 Ma Ea)(v:SignSt b1 b2 Mb Eb)(f:wa.length≤1000∧wb.length≤1000)(f1:wa1.length≤1000∧(wb++l0).length≤1000)(f2:(wa1++l1).length≤1000∧wb2.length≤1000)
  (j:(g1 || g0 || (Ea==0) || (Eb==0))=true) (next:Rests n ⟨a2,b2,if Eb=0 then wa1++l1++[Mb] else wa1++l1,if Ea=0 then wb2++[Ma] else wb2,bad⟩ Q):Rests (n+1) ⟨a,b,wa,wb,bad⟩ Q:=by
 obtain⟨l,o,q⟩:=q7s (bad:=bad) g i t v f f1 f2
 exact .step n _ Q l (by rw[q];exact j) (by rw[o];exact next)
end
def qu1(xs:List Live):Prop:=∀x∈xs,0≤x.state∧x.state≤9
def qjp(ours:Bool)(ev:Int):Prop:=(ours=false∧(ev=2∨ev=3∨ev=4))∨(ours=true∧(ev=1∨ev=2∨ev=4))
theorem q0n:∀(own:Bool) (s:Fin 10),∀ev:Fin 5,∀ours:Bool,((ours=false∧(ev.val=2∨ev.val=3∨ev.val=4))∨(ours=true∧(ev.val=1∨ev.val=2∨ev.val=4))) →
  qcg ours own (q8 (s.val:Int) own (ev.val:Int))=qcg ours own (s.val:Int)∧(qcg ours own (s.val:Int)=false→qdu ours own (q8 (s.val:Int) own (ev.val:Int))=qdu ours own (s.val:Int)):=by decide +kernel
theorem qsw{ours own:Bool}{s ev:Int}(h:qjp ours ev)(j:0≤s∧s≤9):qcg ours own (q8 s own ev)=qcg ours own s∧(qcg ours own s=false→qdu ours own (q8 s own ev)=qdu ours own s):=by
 have i:0≤ev∧ev<5:=by rcases h with ⟨-,e | e | e⟩ | ⟨-,e | e | e⟩<;>omega
 have f:((s.toNat:Nat):Int)=s:=by omega
 have g:((ev.toNat:Nat):Int)=ev:=by omega
 have:=q0n own ⟨s.toNat,by omega⟩ ⟨ev.toNat,by omega⟩ ours (by
  rcases h with ⟨a,e | e | e⟩ | ⟨a,e | e | e⟩
  ·exact .inl ⟨a,.inl (by show ev.toNat=2;omega)⟩
  ·exact .inl ⟨a,.inr (.inl (by show ev.toNat=3;omega))⟩
  ·exact .inl ⟨a,.inr (.inr (by show ev.toNat=4;omega))⟩
  ·exact .inr ⟨a,.inl (by show ev.toNat=1;omega)⟩
  ·exact .inr ⟨a,.inr (.inl (by show ev.toNat=2;omega))⟩
  ·exact .inr ⟨a,.inr (.inr (by show ev.toNat=4;omega))⟩)
 simp only[f,g] at this
 exact this
theorem q8a{ours:Bool}{ev:Int}(h:qjp ours ev){x:Live}(j:0≤x.state∧x.state≤9)(p:Int × Int):qa9 ours p (aft ev x)=qa9 ours p x:=by
 obtain⟨f,g⟩:=qsw (own:=x.own) h j
 unfold qa9
 show (if qcg ours x.own (q8 x.state x.own ev)=true then p else if (qdu ours x.own (q8 x.state x.own ev)&&x.paid)=true then _ else _)=_
 rw[f]
 cases i:qcg ours x.own x.state with
 | true=>rfl
 | false=>rw[g i];rfl
theorem q8c{ours:Bool}{ev:Int}(h:qjp ours ev)(l r:Int){xs:List Live}(f:qu1 xs):zm ours l r (zk ev xs)=zm ours l r xs:=by
 unfold zm zk
 have key:∀(xs:List Live) (p:Int × Int),qu1 xs→(xs.map (aft ev)).foldl (qa9 ours) p=xs.foldl (qa9 ours) p:=by
  intro xs
  induction xs with
  | nil=>intro p _;rfl
  | cons x xs i =>
   intro p f
   rw[List.map_cons,List.foldl_cons,List.foldl_cons,q8a h (f x (List.mem_cons_self ..)),i _ (fun y g=>f y (List.mem_cons_of_mem _ g))]
 exact key xs (l,r) f
theorem q28{ours:Bool}{ev:Int}(h:qjp ours ev){xs:List Live}(g:qu1 xs):qz ours (zk ev xs)=qz ours xs:=by
 unfold qz zk
 induction xs with
 | nil=>rfl
 | cons x xs f =>
  have f:=f (fun y j=>g y (List.mem_cons_of_mem _ j))
  have i:qcg ours (aft ev x).own (aft ev x).state=qcg ours x.own x.state:=(qsw (own:=x.own) h (g x (List.mem_cons_self ..))).1
  rw[List.map_cons,List.filter_cons,List.filter_cons,i]
  cases qcg ours x.own x.state with
  | true=>simp only[if_true,List.map_cons];rw[f];rfl
  | false=>simpa using f
theorem qhv(ours:Bool)(y:Live)(L:List Live):∀p:Int × Int,L.foldl (qa9 ours) (qa9 ours p y)=qa9 ours (L.foldl (qa9 ours) p) y:=by
 induction L with
 | nil=>intro p;rfl
 | cons x L f =>
  intro p
  rw[List.foldl_cons,List.foldl_cons,q4c,f]
theorem qv2(ours own:Bool):qcg ours own 9=false∧qdu ours own 9=true:=by cases ours<;>cases own<;>decide
theorem qrv(c:Ch)(f:Bool)(n:Int):((c.give f n).loc,(c.give f n).rem)=qcn f n (c.loc,c.rem):=by
 unfold Ch.give qcn
 cases f<;>rfl
theorem qsn(ours:Bool)(f:List Live):∀c:Ch,zm ours (f.foldl qbh c).loc (f.foldl qbh c).rem (qcl f)=zm ours c.loc c.rem f:=by
 unfold zm
 induction f with
 | nil=>intro c;rfl
 | cons y f l =>
  intro c
  rw[List.foldl_cons,List.foldl_cons]
  by_cases g:y.state=9
  ·have i:qbh c y=c.give (y.own != y.paid) y.h.amount:=by unfold qbh;rw[if_pos g]
   have j:qcl (y::f)=qcl f:=by unfold qcl;rw[List.filter_cons,g];rfl
   have m:qa9 ours (c.loc,c.rem) y=qcn (y.own != y.paid) y.h.amount (c.loc,c.rem):=by
    unfold qa9
    obtain⟨a1,a2⟩:=qv2 ours y.own
    rw[g,a1,a2]
    cases y.own<;>cases y.paid<;>rfl
   rw[i,j,l,qrv,m]
  ·have i:qbh c y=c:=by unfold qbh;rw[if_neg g]
   have j:qcl (y::f)=y::qcl f:=by
    unfold qcl
    rw[List.filter_cons]
    have:(!(y.state==9))=true:=by simpa using g
    rw[this]
    rfl
   rw[i,j,List.foldl_cons,qhv,l,qhv]
theorem qpr(ours:Bool)(g:List Live):qz ours (qcl g)=qz ours g:=by
 unfold qz qcl
 rw[List.filter_filter]
 congr 1
 refine List.filter_congr fun x _=> ?_
 by_cases f:x.state=9
 ·rw[f,(qv2 ours x.own).1];rfl
 ·have:(!(x.state==9))=true:=by simpa using f
  rw[this,Bool.and_true]
theorem q4q{ours:Bool}{ev:Int}(h:qjp ours ev)(c:Ch)(f:qu1 c.xs):zm ours (c.goOn ev).loc (c.goOn ev).rem (c.goOn ev).xs=zm ours c.loc c.rem c.xs∧qz ours (c.goOn ev).xs=qz ours c.xs:=by
 refine⟨?_,?_⟩
 ·show zm ours ((zk ev c.xs).foldl qbh c).loc ((zk ev c.xs).foldl qbh c).rem (qcl (zk ev c.xs))=_
  rw[qsn,q8c h _ _ f]
 ·show qz ours (qcl (zk ev c.xs))=_
  rw[qpr,q28 h f]
theorem qmn{ours:Bool}{ev:Int}(h:qjp ours ev)(key:ByteArray)(ch n:Int)(c:Ch)(i:qu1 c.xs):zx ours key ch n (c.goOn ev).loc (c.goOn ev).rem (c.goOn ev).xs=zx ours key ch n c.loc c.rem c.xs:=by
 obtain⟨f,g⟩:=q4q h c i
 unfold zx qhb qhc
 rw[f,g]
end Go.Proofs.YtjpmomdechibmaaGreatDoor
