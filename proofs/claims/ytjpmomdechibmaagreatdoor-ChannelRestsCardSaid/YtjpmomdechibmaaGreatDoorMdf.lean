/-
  Hear, of any message: Again too.
-/
import Derived.Test.YtjpmomdechibmaaGreatDoorHAg
import Derived.Test.YtjpmomdechibmaaGreatDoorMdc
import Derived.Test.YtjpmomdechibmaaGreatDoorCut
import Derived.Test.YtjpmomdechibmaaGreatDoorMcc
import Derived.Test.YtjpmomdechibmaaGreatDoorMbi
set_option linter.unusedVariables false
set_option linter.unusedSimpArgs false
namespace Go.Proofs.YtjpmomdechibmaaGreatDoor
open Go.RowKit
def qed(w:List MsgV)(m:MsgV)(e:Int):List MsgV:=if e=0 then w++[m] else w
def Ch.again(c:Ch):MsgV:=⟨9,c.s.ch,IntKind.u64.wrap c.k.told,0,qad,0,c.k.heard+1⟩
noncomputable def Ch.hears(c:Ch)(m:MsgV):Ch × List MsgV × Int :=
 if m.kind=9 then (if qam m=false∨m.ch≠c.s.ch then (c,[],1) else (c,(c.hearAgain m).1,(c.hearAgain m).2)) else c.hear m
theorem q0e(g:Nat)(S:Nat→Prop)(c:Ch)(m:MsgV)(o:MsgOk m)(w:World)(h:ChS w g S c)(l:qam m=true)(i:m.ch=c.s.ch)(x:m.kind=9)(v:Tb w)(f:c.last.length≤900000) :
  Calls Tryz.prog 18 #[.pointer (some ⟨g,0,none⟩),.agg m.cells.toArray] w (qgc g S w c (c.hearAgain m).1 (c.hearAgain m).2) :=
 qji _ g S c _ _ _ m o w h l i (enters_of Tryz.func72 (by kernel_rfl) rfl) (fun t=>by rw[x];exact zek t) (fun W q=>qr3 g S c m o W (h.new q) (v.new q) f)
theorem qs3(g:Nat)(S:Nat→Prop)(c:Ch)(m:MsgV)(o:MsgOk m)(w:World)(h:ChS w g S c)(z:c.Inv)(t:Tb w)(x:Apart S)(D:3≤m.kind∧m.kind≤9)(i:c.last.length≤900000) :
  Calls Tryz.prog 18 #[.pointer (some ⟨g,0,none⟩),.agg m.cells.toArray] w (qgc g S w (c.hears m).1 (c.hears m).2.1 (c.hears m).2.2):=by
 by_cases l:m.kind=9
 ·by_cases f:qam m=false∨m.ch≠c.s.ch
  ·have e:c.hears m=(c,[],1):=by unfold Ch.hears;rw[if_pos l,if_pos f]
   rw[e]
   refine(qxj g S c m o w h f).mono ?_
   rintro e w' ⟨y,v⟩
   exact⟨_,y,qcu.nil _ _,(h.new v).frW,v.mono (fun _ _ h=>h.elim)⟩
  ·have e:c.hears m=(c,(c.hearAgain m).1,(c.hearAgain m).2):=by unfold Ch.hears;rw[if_pos l,if_neg f]
   rw[e]
   have q:qam m=true:=by
    cases C:qam m with
    | true=>rfl
    | false=>exact absurd (.inl C) f
   exact q0e g S c m o w h q (Decidable.of_not_not (fun e=>f (.inr e))) l t i
 ·have e:c.hears m=c.hear m:=by unfold Ch.hears;rw[if_neg l]
  rw[e]
  exact q74 g S c m o w h z t x (by omega)
def Pr.en(P:Pr)(k:Nat):Ch:=if k=0 then P.a else P.b
def Pr.set(P:Pr)(k:Nat)(c:Ch):Pr:=if k=0 then {P with a:=c} else {P with b:=c}
def Pr.way(P:Pr)(k:Nat):List MsgV:=if k=0 then P.wa else P.wb
def Pr.say(P:Pr)(k:Nat)(m:MsgV)(e:Int):Pr:=if k=0 then {P with wb:=qed P.wb m e} else {P with wa:=qed P.wa m e}
noncomputable def Pr.heard0(P:Pr):Pr × Bool:=match P.wa with
 | []=>(P,false)
 | m::ms=>(⟨(P.a.hears m).1,P.b,ms,P.wb++(P.a.hears m).2.1,P.bad || decide ((P.a.hears m).2.2≠0)⟩,true)
noncomputable def Pr.heard1(P:Pr):Pr × Bool:=match P.wb with
 | []=>(P,false)
 | m::ms=>(⟨P.a,(P.b.hears m).1,P.wa++(P.b.hears m).2.1,ms,P.bad || decide ((P.b.hears m).2.2≠0)⟩,true)
noncomputable def Pr.heard(P:Pr)(k:Nat):Pr × Bool:=if k=0 then P.heard0 else P.heard1
structure HeardOk(c:Ch)(m:MsgV)(other:List MsgV):Prop where
 inv:c.Inv
 kind:3≤m.kind∧m.kind≤9
 says:∀l∈(c.hears m).2.1,MsgOk l
 few:other.length+(c.hears m).2.1.length≤1000000
 last:c.last.length≤900000
def quc(c:Ch)(w other:List MsgV):Prop:=match w with | []=>True | m::ms=>MsgOk m∧HeardOk c m other∧ms.length<1000000
def Pr.Hok(P:Pr)(k:Nat):Prop:=if k=0 then quc P.a P.wa P.wb else quc P.b P.wb P.wa
abbrev Kp:=Nat × Array Value × TypeId
def qli(w:World)(q:Kp):Prop:=w.heap[q.1]? = some (.cells q.2.1 q.2.2 (0,0))
def PrK(w0 w:World)(p:Nat)(g:Nat→Nat)(P:Pr)(Ks:List Kp):Prop :=
 ∃(S f i:Nat→Prop) (l m:Value),PrP w0 w p (g 0) (g 1) f i P.a P.b P.wa P.wb l m P.bad∧(∀k,(f k∨i k∨k=p∨l.ownBlock=some k∨m.ownBlock=some k)→S k)∧(∀k,S k→w0.heap.size≤k∧k<w.heap.size)∧(∀q∈Ks,¬S q.1∧qli w q∧w0.heap.size≤q.1)∧(Ks.map (·.1)).Nodup
section
variable {w0 w w':World}{p:Nat}{g:Nat→Nat}{P P':Pr}{Ks Ks':List Kp}{q r:Kp}{S T:Nat→Prop}
theorem qli.upd(h:qli w q)(u:Upd T w w')(n:¬T q.1):qli w' q:=u.old h n
theorem qli.lt(h:qli w q):q.1<w.heap.size:=zw h
theorem PrK.of(C:∀q∈Ks,¬S q.1∧qli w q∧w0.heap.size≤q.1)(D:(Ks.map (·.1)).Nodup)(h:PrD w0 w' p (Fr S w w') P'∧Upd S w w'):∃g',PrK w0 w' p g' P' Ks:=by
 obtain⟨⟨t,v,m,o,H,I,z,x,y⟩,u⟩:=h
 refine⟨fun k=>if k=0 then t else v,Fr S w w',m,o,H,I,z,x,y,fun q E=> ?_,D⟩
 obtain⟨i,l,F⟩:=C q E
 refine⟨?_,l.upd u i,F⟩
 rintro (f | f)
 ·exact i f
 ·have:=l.lt
  omega
theorem PrK.toS(h:PrK w0 w p g P Ks):∃S,PrD w0 w p S P∧(∀q∈Ks,¬S q.1∧qli w q∧w0.heap.size≤q.1)∧(Ks.map (·.1)).Nodup:=by
 obtain⟨S,f,i,x,y,v,l,m,o,t⟩:=h
 exact⟨S,⟨_,_,f,i,x,y,v,l,m⟩,o,t⟩
theorem PrK.start{y z:Nat}{v x:Nat→Prop}{a b:Ch}{wa wb:List MsgV}{H I:Value}{bad:Bool}(h:PrP w0 w p y z v x a b wa wb H I bad):∃g,PrK w0 w p g ⟨a,b,wa,wb,bad⟩ []:=by
 obtain⟨l,m,f,i,o,t,E,C,D⟩:=h.toS
 exact⟨fun k=>if k=0 then l else m,_,f,i,o,t,E,C,D,(fun q F=>by cases F),List.nodup_nil⟩
theorem PrK.new(h:PrK w0 w p g P Ks)(u:qy w w'):PrK w0 w' p g P Ks:=by
 obtain⟨S,o,t,z,C,y,v,l,f,x⟩:=h
 exact⟨S,o,t,z,C,y.new u,v,fun k m=>⟨(l k m).1,Nat.lt_of_lt_of_le (l k m).2 u.size⟩,fun q i=>⟨(f q i).1,(f q i).2.1.upd u (fun h=>h),(f q i).2.2⟩,x⟩
theorem PrK.n(h:PrK w0 w p g P Ks):qy w0 w:=by
 obtain⟨S,i,l,m,o,f,-⟩:=h
 exact f.two.n
theorem PrK.le(h:PrK w0 w p g P Ks):w0.heap.size≤w.heap.size:=h.n.size
theorem PrK.kept(h:PrK w0 w p g P Ks)(i:q∈Ks):qli w q:=by
 obtain⟨S,l,m,y,z,x,o,t,f,v⟩:=h
 exact(f q i).2.1
theorem PrK.one(h:PrK w0 w p g P (q::Ks)):qli w q:=h.kept (List.mem_cons_self ..)
theorem PrK.two(h:PrK w0 w p g P (q::r::Ks)):qli w r:=h.kept (List.mem_cons_of_mem _ (List.mem_cons_self ..))
theorem PrK.drop(h:PrK w0 w p g P (q::Ks)):PrK w0 w p g P Ks:=by
 obtain⟨S,f,i,y,z,v,l,m,o,t⟩:=h
 exact⟨S,f,i,y,z,v,l,m,fun r x=>o r (List.mem_cons_of_mem _ x),(List.nodup_cons.1 t).2⟩
theorem PrK.cell(h:PrK w0 w p g P Ks){k:Nat}(m:k<2):w.cell? ⟨p,k,none⟩=some (.pointer (some ⟨g k,0,none⟩)):=by
 obtain⟨S,i,l,o,t,f,-⟩:=h
 rcases (by omega:k=0∨k=1) with rfl | rfl
 ·exact f.cell.1
 ·exact f.cell.2.1
theorem PrK.alloc(h:PrK w0 w p g P Ks)(cs:Array Value)(T:TypeId):PrK w0 (w.alloc (.cells cs T)) p g P ((w.heap.size,cs,T)::Ks):=by
 have C:=h.le
 have l:qy w (w.alloc (.cells cs T)):=(Upd.refl _ _).alloc _
 have I:=h.new l
 obtain⟨S,t,v,F,H,z,x,m,i,y⟩:=h
 refine⟨S,t,v,F,H,z.new l,x,fun k o=>⟨(m k o).1,Nat.lt_of_lt_of_le (m k o).2 l.size⟩,?_,?_⟩
 ·intro r f
  rcases List.mem_cons.1 f with rfl | f
  ·exact⟨fun E=>absurd (m _ E).2 (Nat.lt_irrefl _),qi _ _,C⟩
  ·exact⟨(i r f).1,(i r f).2.1.upd l (fun h=>h),(i r f).2.2⟩
 ·rw[List.map_cons,List.nodup_cons]
  refine⟨?_,y⟩
  intro D
  obtain⟨r,f,J⟩:=List.mem_map.1 D
  have:=(i r f).2.1.lt
  omega
theorem PrK.put{K:Nat}{m v:MsgV}(h:PrK w0 w p g P ((K,m.cells.toArray,30)::Ks))(R:m.hash.length=32)(z:v.hash.length=32):PrK w0 (w.setCells K 0 v.cells) p g P ((K,v.cells.toArray,30)::Ks):=by
 obtain⟨S,D,E,J,L,f,l,x,F,y⟩:=h
 have u:Upd (· = K) w (w.setCells K 0 v.cells):=qak _
 obtain⟨t,H,I⟩:=F _ (List.mem_cons_self ..)
 have U:PrS w0 w p S P.a P.b P.wa P.wb P.bad:=⟨_,_,D,E,J,L,f,l,x⟩
 have C:∀k,S k→k≠K:=fun k i e=>t (e▸i)
 refine⟨S,D,E,J,L,⟨f.two.put ⟨H.lt,fun k=>t (l K (.inl k)),fun k=>t (l K (.inr (.inl k)))⟩ I u,u.old f.at_ (C p (l p (by simp))),f.off.new u.size,f.ge,qu f.rowA u (fun k i=>C k (l k (by simp[i]))),qu f.rowB u (fun k i=>C k (l k (by simp[i]))),fun k i=>(f.offA k i).new u.size,fun k i=>(f.offB k i).new u.size,f.sep,f.okA,f.okB⟩,l,fun k i=>⟨(x k i).1,Nat.lt_of_lt_of_le (x k i).2 u.size⟩,?_,y⟩
 intro r o
 rcases List.mem_cons.1 o with rfl | o
 ·exact⟨t,(MsB.put ⟨H,R⟩ z).at_,I⟩
 ·obtain⟨M,N,O⟩:=F r (List.mem_cons_of_mem _ o)
  refine⟨M,N.upd u ?_,O⟩
  intro e
  rw[List.map_cons,List.nodup_cons] at y
  exact y.1 (List.mem_map.2 ⟨r,o,e⟩)
theorem PrK.end(h:PrK w0 w p g P Ks)(t:Tb w0){k:Nat}(f:k<2):∃o,ChS w (g k) o (P.en k)∧Apart o∧Tb w∧∀w' c',ChS w' (g k) (Fr o w w') c'→Upd o w w'→PrK w0 w' p g (P.set k c') Ks:=by
 obtain⟨S,v,x,J,K,i,l,E,M,F⟩:=h
 have m:∀ {w':World} {T:Nat→Prop},Upd T w w'→(∀k,T k→S k)→∀q∈Ks,¬Fr S w w' q.1∧qli w' q∧w0.heap.size≤q.1:=by
  intro w' T u y q O
  obtain⟨C,D,L⟩:=M q O
  refine⟨?_,D.upd u (fun e=>C (y _ e)),L⟩
  rintro (I | I)
  ·exact C I
  ·have:=D.lt
   omega
 have N:=i.two.n.size
 have H:∀ {w':World},w.heap.size≤w'.heap.size→∀k,Fr S w w' k→w0.heap.size≤k∧k<w'.heap.size:=by
  rintro w' R k (f | f)
  ·exact⟨(E k f).1,by have:=(E k f).2;omega⟩
  ·exact⟨by omega,f.2⟩
 rcases (by omega:k=0∨k=1) with rfl | rfl
 ·refine⟨v,i.two.A,i.two.apA t,t.new i.two.n,fun w' c' z u=>⟨Fr S w w',Fr v w w',x,J,K,i.opA z u,?_,H u.size,m u (fun k f=>l k (.inl f)),F⟩⟩
  rintro k ((f | f) | f)
  ·exact .inl (l k (.inl f))
  ·exact .inr f
  ·exact .inl (l k (.inr f))
 ·refine⟨x,i.two.B,i.two.apB t,t.new i.two.n,fun w' c' z u=>⟨Fr S w w',v,Fr x w w',J,K,i.opB z u,?_,H u.size,m u (fun k f=>l k (.inr (.inl f))),F⟩⟩
  rintro k (f | (f | f) | f)
  ·exact .inl (l k (.inl f))
  ·exact .inl (l k (.inr (.inl f)))
  ·exact .inr f
  ·exact .inl (l k (.inr (.inr f)))
end
section
variable {w0 w:World}{p:Nat}{g:Nat→Nat}{P:Pr}{Ks:List Kp}{k:Nat}
theorem qq7(t:Tb w0)(H:PrK w0 w p g P Ks)(x:k<2)(n:Int)(h:List Int)(ex:Int)(y:h.length=32)(v:qa6 h)(z:0≤n∧n<18446744073709551616)(C : -9223372036854775808≤ex∧ex≤9223372036854775807)(f:(P.en k).news.length<1000000∧(P.en k).xs.length<1000000) :
  Calls Tryz.prog 13 #[.pointer (some ⟨g k,0,none⟩),.int .u64 n,.agg (zf h).toArray,.int .i64 ex] w fun e w' =>
   e = .returned (.tuple #[.agg ((P.en k).offer n (qic h) ex).2.1.cells.toArray,.int .i64 ((P.en k).offer n (qic h) ex).2.2])∧PrK w0 w' p g (P.set k ((P.en k).offer n (qic h) ex).1) Ks:=by
 obtain⟨l,m,D,E,o⟩:=H.end t x
 exact(qq6 _ l _ n h ex w m y v z C f).mono fun e w' i=>⟨i.1,o _ _ i.2.1 i.2.2⟩
theorem qp9(v:Tb w0)(H:PrK w0 w p g P Ks)(x:k<2)(id:Int)(pre:List Int)(y:pre.length=32)(f:(P.en k).news.length<1000000) :
  Calls Tryz.prog 27 #[.pointer (some ⟨g k,0,none⟩),.int .u64 id,.agg (zf pre).toArray] w fun e w' =>
   e = .returned (.tuple #[.agg ((P.en k).fulfill id pre).2.1.cells.toArray,.int .i64 ((P.en k).fulfill id pre).2.2])∧PrK w0 w' p g (P.set k ((P.en k).fulfill id pre).1) Ks:=by
 obtain⟨l,m,z,o,t⟩:=H.end v x
 exact(qxc _ l _ id pre y w m o f).mono fun e w' i=>⟨i.1,t _ _ i.2.1 i.2.2⟩
theorem q2p(t:Tb w0)(H:PrK w0 w p g P Ks)(v:k<2)(id r:Int)(f:(P.en k).news.length<1000000) :
  Calls Tryz.prog 31 #[.pointer (some ⟨g k,0,none⟩),.int .u64 id,.int .i64 r] w fun e w' =>
   e = .returned (.tuple #[.agg ((P.en k).fail id r).2.1.cells.toArray,.int .i64 ((P.en k).fail id r).2.2])∧PrK w0 w' p g (P.set k ((P.en k).fail id r).1) Ks:=by
 obtain⟨l,m,x,y,o⟩:=H.end t v
 exact(q7i _ l _ id r w m f).mono fun e w' i=>⟨i.1,o _ _ i.2.1 i.2.2⟩
theorem zde(x:Tb w0)(H:PrK w0 w p g P Ks)(y:k<2)(f:SignOk (P.en k)) :
  Calls Tryz.prog 16 #[.pointer (some ⟨g k,0,none⟩)] w fun e w'=>e = .returned (.tuple #[.agg (P.en k).sign.2.1.cells.toArray,.int .i64 (P.en k).sign.2.2])∧PrK w0 w' p g (P.set k (P.en k).sign.1) Ks:=by
 obtain⟨l,m,o,t,v⟩:=H.end x y
 exact(qyz _ l _ w m t o f.key f.ch f.few f.xs).mono fun e w' i=>⟨i.1,v _ _ i.2.1 i.2.2⟩
theorem zdd(o:Tb w0)(H:PrK w0 w p g P Ks)(t:k<2) :
  Calls Tryz.prog 34 #[.pointer (some ⟨g k,0,none⟩)] w fun e w'=>e = .returned (.tuple #[.agg (P.en k).shut.2.1.cells.toArray,.int .i64 (P.en k).shut.2.2])∧PrK w0 w' p g (P.set k (P.en k).shut.1) Ks:=by
 obtain⟨i,l,v,x,m⟩:=H.end o t
 exact(q9u _ i _ w l).mono fun e w' f=>⟨f.1,m _ _ f.2.1 f.2.2⟩
theorem zfy(o:Tb w0)(H:PrK w0 w p g P Ks)(t:k<2) :
  Calls Tryz.prog 53 #[.pointer (some ⟨g k,0,none⟩)] w fun e w'=>(∃v x,e = .returned (.agg #[v,x]))∧PrK w0 w' p g (P.set k (P.en k).cut) Ks:=by
 obtain⟨i,l,y,z,m⟩:=H.end o t
 exact(za4 _ i _ w l).mono fun e w' f=>⟨f.1,m _ _ f.2.1 f.2.2⟩
theorem zdv(f:Tb w0)(H:PrK w0 w p g P Ks)(i:k<2) :
  Calls Tryz.prog 23 #[.pointer (some ⟨g k,0,none⟩)] w (qa7 (.agg (P.en k).again.cells.toArray) w):=by
 obtain⟨l,⟨o,nv,m,h⟩,-⟩:=H.end f i
 exact q3i _ _ w h.toR ⟨h.ok.signed.1,by have:=h.ok.signed.2;show (P.en k).k.signed<_;omega⟩ h.ok.heard
theorem qop(H:PrK w0 w p g P Ks)(x:k<2)(m:MsgV)(n:Int)(v:MsgOk m)(f:P.wa.length<1000000∧P.wb.length<1000000) :
  Calls Tryz.prog 14 #[.pointer (some ⟨p,0,none⟩),.int .i64 (k:Int),.agg m.cells.toArray,.int .i64 n] w fun e w'=>e = .returned (.tuple #[])∧∃g',PrK w0 w' p g' (P.say k m n) Ks:=by
 obtain⟨S,t,l,o⟩:=H.toS
 rcases (by omega:k=0∨k=1) with rfl | rfl
 ·exact(q5t w0 p S P.a P.b P.wa P.wb P.bad m n v w t f.2).mono fun e w' i=>⟨i.1,PrK.of l o i.2⟩
 ·exact(q5u w0 p S P.a P.b P.wa P.wb P.bad m n v w t f.1).mono fun e w' i=>⟨i.1,PrK.of l o i.2⟩
theorem qqi(K:Tb w0)(H:PrK w0 w p g P Ks)(L:k<2)(o:P.Hok k) :
  Calls Tryz.prog 15 #[.pointer (some ⟨p,0,none⟩),.int .i64 (k:Int)] w fun e w'=>e = .returned (.bool (P.heard k).2)∧∃g',PrK w0 w' p g' (P.heard k).1 Ks:=by
 obtain⟨S,t,I,J⟩:=H.toS
 obtain⟨a,b,wa,wb,bad⟩:=P
 rcases (by omega:k=0∨k=1) with rfl | rfl
 ·cases wa with
  | nil =>
   refine(qxl w0 p S a b wb bad w t).mono ?_
   rintro e w' ⟨i,l⟩
   exact⟨i,_,H.new l⟩
  | cons m F =>
   obtain⟨D,f,C⟩:=o
   refine(q0f w0 K p S a b m F wb bad w t _ _ _ f.says ⟨C,f.few⟩ fun W g v z y E=>qs3 g v a m D W z f.inv E y f.kind f.last).mono ?_
   rintro e w' ⟨i,x⟩
   exact⟨i,PrK.of I J x⟩
 ·cases wb with
  | nil =>
   refine(qxm w0 p S a b wa bad w t).mono ?_
   rintro e w' ⟨i,l⟩
   exact⟨i,_,H.new l⟩
  | cons m F =>
   obtain⟨D,f,C⟩:=o
   refine(q0g w0 K p S a b m F wa bad w t _ _ _ f.says ⟨C,f.few⟩ fun W g v z y E=>qs3 g v b m D W z f.inv E y f.kind f.last).mono ?_
   rintro e w' ⟨i,x⟩
   exact⟨i,PrK.of I J x⟩
end
end Go.Proofs.YtjpmomdechibmaaGreatDoor
namespace Go.Proofs.YtjpmomdechibmaaGreatDoor
open Go.RowKit Go.Sort
def qhw(I:List Item):Prop:=I.Nodup∧∀x∈I,∀y∈I,¬kl x y→¬kl y x→x=y
theorem qhw.perm{I J:List Item}(h:qhw I)(p:I.Perm J):qhw J:=⟨p.nodup_iff.1 h.1,fun x f y g=>h.2 x (p.symm.subset f) y (p.symm.subset g)⟩
theorem zcn{J:List Item}(h:J.Nodup):∃f:Item→Nat,J.zipIdx=J.map fun x=>(x,f x):=by
 classical
 refine⟨fun x=>if h:∃i,J[i]? = some x then h.choose else 0,?_⟩
 apply List.ext_getElem?
 intro i
 rw[List.getElem?_zipIdx,List.getElem?_map]
 cases y:J[i]? with
 | none=>rfl
 | some x =>
  have l:∃i,J[i]? = some x:=⟨i,y⟩
  have z:=l.choose_spec
  have C:l.choose=i:=by
   obtain⟨t,o⟩:=List.getElem?_eq_some_iff.1 z
   obtain⟨v,q⟩:=List.getElem?_eq_some_iff.1 y
   have w:=List.pairwise_iff_getElem.1 h
   refine Decidable.of_not_not fun m=> ?_
   rcases Nat.lt_or_gt_of_ne m with g | g
   ·exact w _ _ t v g (o.trans q.symm)
   ·exact w _ _ v t g (q.trans o.symm)
  simp only[Option.map_some]
  rw[dif_pos l,C,Nat.zero_add]
theorem qoj{I J X:List Item}(m:qhw I)(p:I.Perm J)(h:qe4 I X):qe4 J X:=by
 classical
 obtain⟨M,C,D,rfl⟩:=h
 have l:(its M).Perm I:=by
  have:=C.map (·.1)
  simpa [its,List.zipIdx_map_fst] using this
 have g:(its M).Nodup:=l.nodup_iff.2 m.1
 have i:(its M).Pairwise kl:=by
  unfold its at g ⊢
  rw[List.pairwise_map]
  rw[List.Nodup,List.pairwise_map] at g
  refine List.Pairwise.imp_of_mem ?_ (g.and D)
  rintro a b w y ⟨q,o⟩
  rcases o with e | ⟨t,-⟩
  ·exact e
  ·refine Decidable.of_not_not fun v=>q ?_
   exact m.2 a.1 (l.subset (List.mem_map_of_mem w)) b.1 (l.subset (List.mem_map_of_mem y)) v t
 obtain⟨f,z⟩:=zcn (p.nodup_iff.1 m.1)
 refine⟨(its M).map fun x=>(x,f x),?_,?_,?_⟩
 ·rw[z]
  exact(l.trans p).map _
 ·show List.Pairwise lt' _
  rw[List.pairwise_map]
  exact i.imp fun h=> .inl h
 ·unfold its
  rw[List.map_map]
  exact(List.map_id _).symm
theorem qlq{I J:List Item}(g:qhw I)(p:I.Perm J):qe3 I=qe3 J:=by
 classical
 by_cases h:∃X,qe4 I X
 ·obtain⟨X,f⟩:=h
  rw[←qrt f,←qrt (qoj g p f)]
 ·have i:¬ ∃X,qe4 J X:=fun⟨X,f⟩=>h ⟨X,qoj (g.perm p) p.symm f⟩
  unfold qe3
  rw[dif_neg h,dif_neg i]
theorem q6g(a n m:Int):IntKind.u64.wrap (IntKind.u64.wrap (a+n)+m)=IntKind.u64.wrap (IntKind.u64.wrap (a+m)+n):=by
 simp only[IntKind.wrap_u64]
 omega
theorem q4j(u v:Bool)(n m:Int)(p:Int × Int):qc1 v m (qc1 u n p)=qc1 u n (qc1 v m p):=by
 unfold qc1
 cases u<;>cases v<;>simp[q6g]
theorem q51(ours:Bool)(p:Int × Int)(x y:Live):qbj ours (qbj ours p x) y=qbj ours (qbj ours p y) x:=by
 unfold qbj
 split<;>split<;>(try split)<;>(try split)<;>first | rfl | exact q4j _ _ _ _ _ | skip
theorem qlw(ours:Bool){xs f:List Live}(p:xs.Perm f):(zb ours xs).Perm (zb ours f):=by
 unfold zb
 exact(p.filter _).map _
end Go.Proofs.YtjpmomdechibmaaGreatDoor
namespace Go.Proofs.YtjpmomdechibmaaGreatDoor
open Go.RowKit
theorem PrS.comp{w0 w1 l i:World}{p:Nat}{S:Nat→Prop}{a b w x:Ch}{wa wb m o:List MsgV}{bad f:Bool}(h:PrS w0 i p (Fr (Fr S w1 l) l i) a b wa wb bad)(C:w1.heap.size≤l.heap.size)(D:l.heap.size≤i.heap.size)(q:PrS w0 w1 p S w x m o f):PrS w0 i p (Fr S w1 i) a b wa wb bad:=by
 have H:=q.le
 obtain⟨y,z,t,v,J,K,E,I,-⟩:=h
 obtain⟨-,-,-,-,-,-,-,-,F⟩:=q
 refine⟨y,z,t,v,J,K,E,fun k g=>Fr.comp C D k (I k g),?_⟩
 rintro k (g | g)
 ·have:=F k g
  exact⟨this.1,by omega⟩
 ·exact⟨by omega,g.2⟩
theorem PrS.later{w0 w1 i g:World}{p:Nat}{S:Nat→Prop}{a b:Ch}{wa wb:List MsgV}{bad:Bool}(h:PrS w0 g p (Fr S i g) a b wa wb bad)(C:w1.heap.size≤i.heap.size)(D:i.heap.size≤g.heap.size)(z:w0.heap.size≤w1.heap.size):PrS w0 g p (Fr S w1 g) a b wa wb bad:=by
 obtain⟨o,q,l,m,x,y,t,w,v⟩:=h
 refine⟨o,q,l,m,x,y,t,?_,?_⟩
 ·intro k f
  rcases w k f with e | e
  ·exact .inl e
  ·exact .inr ⟨by omega,e.2⟩
 ·rintro k (f | f)
  ·exact v k (.inl f)
  ·exact⟨by omega,f.2⟩
noncomputable def Pr.sign0(P:Pr):Pr:= {P with a:=P.a.sign.1,wb:=if P.a.sign.2.2=0 then P.wb++[P.a.sign.2.1] else P.wb}
noncomputable def Pr.sign1(P:Pr):Pr:= {P with b:=P.b.sign.1,wa:=if P.b.sign.2.2=0 then P.wa++[P.b.sign.2.1] else P.wa}
noncomputable def Pr.round(P:Pr):Pr:=P.hears0.1.hears1.1.sign0.sign1
noncomputable def Pr.went(P:Pr):Bool:=P.hears0.1.hears1.2 || P.hears0.2 || (P.hears0.1.hears1.1.a.sign.2.2==0) || (P.hears0.1.hears1.1.sign0.b.sign.2.2==0)
structure Pr.RoundOk(P:Pr):Prop where
 ok0:P.Ok0
 ok1:P.hears0.1.Ok1
 sg0:SignOk P.hears0.1.hears1.1.a
 sg1:SignOk P.hears0.1.hears1.1.sign0.b
 ms0:MsgOk P.hears0.1.hears1.1.a.sign.2.1
 ms1:MsgOk P.hears0.1.hears1.1.sign0.b.sign.2.1
 few0:P.hears0.1.hears1.1.wb.length<1000000
 few1:P.hears0.1.hears1.1.sign0.wa.length<1000000
inductive Rests:Nat→Pr→Pr→Prop
 | out (P:Pr):Rests 0 P P
 | stop (n:Nat) (P:Pr):P.RoundOk→P.went=false→Rests (n+1) P P.round
 | step (n:Nat) (P Q:Pr):P.RoundOk→P.went=true→Rests n P.round Q→Rests (n+1) P Q
theorem qs4(i:Nat){k p d:Nat}(f:k≤p)(g:p≤d):hiB i d k=hiB i d p++hiB i p k:=by
 unfold hiB
 rw[←List.filter_append,←List.reverse_append]
 congr 2
 have e:=List.range'_append_1 (s:=k) (m:=p-k) (n:=d-p)
 rw[show k+(p-k)=p by omega,show p-k+(d-p)=d-k by omega] at e
 exact e.symm
theorem q78{i p:Nat}(h:∀b,b<p→i.testBit b=false):hiB i p 0=[]:=by
 unfold hiB
 rw[List.filter_eq_nil_iff]
 intro b f
 rw[List.mem_reverse,List.mem_range'_1] at f
 rw[h b (by omega)]
 decide
theorem q77{f t d p:Nat}(h:f / 2 ^ p=t / 2 ^ p):hiB f d p=hiB t d p:=by
 unfold hiB
 refine List.filter_congr fun b l=> ?_
 rw[List.mem_reverse,List.mem_range'_1] at l
 have g:=Nat.testBit_div_two_pow (n:=p) f (b-p)
 have i:=Nat.testBit_div_two_pow (n:=p) t (b-p)
 rw[show b-p+p=b by omega] at g i
 rw[←g,←i,h]
theorem q5i{f:Int}(l:qc3 f=true):∀b,b<qbk f→f.toNat.testBit b=false:=by
 intro b g
 unfold qbk at g
 rw[if_pos l] at g
 by_cases i:f.toNat=0
 ·rw[i];exact Nat.zero_testBit b
 ·have q:=qnr l
  obtain⟨m,o,-⟩:=Lib.ctzFrom_spec 64 f.toNat (by omega) (by omega)
  have e:Lib.ctz 64 f.toNat=Lib.ctzFrom 64 f.toNat:=by unfold Lib.ctz;rw[if_neg i]
  rw[e] at g
  generalize Lib.ctzFrom 64 f.toNat=z at g o
  rw[o,Nat.testBit_two_pow_mul]
  simp only[Bool.and_eq_false_imp,decide_eq_true_eq]
  intro h
  omega
theorem qws(h:List Int){f t:Int}(i:qma f t=true):qcp (qc7 h f).1 f t=((qc7 h t).1,0):=by
 have g:=i
 unfold qma at g
 simp only[Bool.and_eq_true,beq_iff_eq] at g
 obtain⟨l,q,o⟩:=g
 have m:=qlb f
 unfold qcp qc7
 rw[if_pos i,if_pos l,if_pos q]
 have e:qce (qce h f.toNat 16) t.toNat (qbk f)=qce h t.toNat 16:=by
  unfold qce
  rw[←List.foldl_append,qs4 t.toNat (Nat.zero_le _) m,qs4 f.toNat (Nat.zero_le _) m,q78 (q5i l),q77 o,List.append_nil]
 rw[e]
def zfw(h:List Int)(k:KeptV):Prop:=qa6 k.told∧(k.full=true→k.told=(qc7 h k.number).1)
def qpr(h:List Int)(ps:List KeptV):Prop:=∀k∈ps,zfw h k
theorem q58(h:List Int):qpr h (List.replicate 17 .zero):=by
 intro k f
 rw[List.eq_of_mem_replicate f]
 exact⟨qde,fun h=>by cases h⟩
theorem qon(h:List Int)(f:qa6 h)(i:Int):qa6 (qc7 h i).1:=by
 unfold qc7
 split
 ·exact qi9 h f _ _
 ·exact qde
theorem q06{h:List Int}{i:Int}{k:KeptV}(g:k.told=(qc7 h k.number).1):qh5 (qc7 h i).1 i k=false:=by
 unfold qh5
 cases f:qma i k.number with
 | false =>
  have e:qcp (qc7 h i).1 i k.number=(qad,1):=by unfold qcp;rw[if_neg (by rw[f];decide)]
  rw[e]
  rfl
 | true =>
  rw[qws h f,g]
  simp
theorem q3t{i:Int}(h:qc3 i=true):qma i i=true:=by
 unfold qma
 rw[h]
 simp
theorem zd9{h:List Int}{i:Int}{ps:List KeptV}(g:qc3 i=true)(m:qpr h ps):qh2 (qc7 h i).1 i ps=0:=by
 have e:qmm (qc7 h i).1 i (ps.take (qbk i))=none:=by
  unfold qmm
  rw[List.find?_eq_none]
  intro k l
  cases f:k.full with
  | false=>simp
  | true =>
   rw[q06 ((m k (List.mem_of_mem_take l)).2 f)]
   decide
 unfold qh2
 rw[q3t g,e]
 rfl
theorem q8c{h:List Int}(g:qa6 h){i:Int}{ps:List KeptV}(f:qpr h ps):qpr h (qu8 (qc7 h i).1 i ps):=by
 unfold qu8
 split
 ·intro k l
  rcases List.mem_or_eq_of_mem_set l with e | e
  ·exact f k e
  ·rw[e]
   exact⟨qon h g i,fun _=>rfl⟩
 ·exact f
section
variable {c:Ch}{m:MsgV}
theorem zbe(i:qam m=true)(f:m.ch=c.s.ch)(g:m.kind=3):c.hear m=((c.hearAdd m).1,[],(c.hearAdd m).2):=by
 unfold Ch.hear
 rw[if_neg (by rw[i,f];simp),if_pos g]
theorem zbf(i:qam m=true)(f:m.ch=c.s.ch)(g:m.kind=4):c.hear m=((c.hearFulfill m).1,[],(c.hearFulfill m).2):=by
 unfold Ch.hear
 rw[if_neg (by rw[i,f];simp),if_neg (by omega),if_pos g]
theorem zbg(i:qam m=true)(f:m.ch=c.s.ch)(g:m.kind=5):c.hear m=((c.hearFail m).1,[],(c.hearFail m).2):=by
 unfold Ch.hear
 rw[if_neg (by rw[i,f];simp),if_neg (by omega),if_neg (by omega),if_pos g]
theorem zbh(i:qam m=true)(f:m.ch=c.s.ch)(g:m.kind=6):c.hear m=c.hearSign m:=by
 unfold Ch.hear
 rw[if_neg (by rw[i,f];simp),if_neg (by omega),if_neg (by omega),if_neg (by omega),if_pos g]
theorem zbi(i:qam m=true)(f:m.ch=c.s.ch)(g:m.kind=7):c.hear m=((c.hearRevoke m).1,[],(c.hearRevoke m).2):=by
 unfold Ch.hear
 rw[if_neg (by rw[i,f];simp),if_neg (by omega),if_neg (by omega),if_neg (by omega),if_neg (by omega),if_pos g]
theorem zbj(g:qam m=true)(f:m.ch=c.s.ch)(i:m.kind=8):c.hear m=(c.hearShut.1,[],c.hearShut.2):=by
 unfold Ch.hear
 rw[if_neg (by rw[g,f];simp),if_neg (by omega),if_neg (by omega),if_neg (by omega),if_neg (by omega),if_neg (by omega)]
end
section
variable {s:SetupV}{sg hd no nt x y k:Int}{f1 f2 rv aw:Bool}{L L1 L2:List Live}{z:Live}{sh:List KeptV}{nw la:List MsgV}{T:List Int}
end
structure HearSt(c:Ch)(m:MsgV)(c':Ch)(l:List MsgV):Prop where
 ok:MsgOk m
 eq:c.hear m=(c',l,0)
 inv:c.Inv
 kind:m.kind=3∨m.kind=4∨m.kind=5∨m.kind=6∨m.kind=7∨m.kind=8
 says:∀l'∈l,MsgOk l'
 few:l.length≤1000
structure SignSt(c c':Ch)(M:MsgV)(E:Int):Prop where
 eq:c.sign=(c',M,E)
 sok:SignOk c
 ok:MsgOk M
def qf0(c:Ch)(ws:List MsgV)(c':Ch)(l f:List MsgV)(g:Bool):Prop:=(ws=[]∧c'=c∧l=[]∧f=[]∧g=false)∨(∃m,ws=m::f∧HearSt c m c' l∧g=true)
theorem qf0.no(c:Ch):qf0 c [] c [] [] false:= .inl ⟨rfl,rfl,rfl,rfl,rfl⟩
theorem qf0.yes{c c':Ch}{m:MsgV}{l ws:List MsgV}(h:HearSt c m c' l):qf0 c (m::ws) c' l ws true:= .inr ⟨m,rfl,h,rfl⟩
section
variable {a b a1 b1 a2 b2:Ch}{wa wb wa1 wb2 l0 l1:List MsgV}{bad g0 g1:Bool}{Ma Mb:MsgV}{Ea Eb:Int}{Q:Pr}{n:Nat}
theorem zfj(h:qf0 a wa a1 l0 wa1 g0)(f:wa.length≤1000∧wb.length≤1000):Pr.hears0 ⟨a,b,wa,wb,bad⟩=(⟨a1,b,wa1,wb++l0,bad⟩,g0)∧Pr.Ok0 ⟨a,b,wa,wb,bad⟩:=by
 rcases h with ⟨rfl,rfl,rfl,rfl,rfl⟩ | ⟨m,rfl,h,rfl⟩
 ·exact⟨show _=((⟨a1,b,[],wb++[],bad⟩:Pr),false) by rw[List.append_nil];rfl,trivial⟩
 ·refine⟨?_,h.ok,⟨h.inv,h.kind,?_,?_⟩,?_⟩
  ·show ((⟨(a.hear m).1,b,wa1,wb++(a.hear m).2.1,bad || decide ((a.hear m).2.2≠0)⟩:Pr),true)=_
   rw[h.eq]
   simp
  ·rw[h.eq];exact h.says
  ·have:=h.few
   rw[h.eq]
   show wb.length+l0.length≤_
   omega
  ·have:=f.1
   rw[List.length_cons] at this
   omega
theorem zfk(h:qf0 b wb b1 l1 wb2 g1)(f:wa.length≤1000∧wb.length≤1000):Pr.hears1 ⟨a,b,wa,wb,bad⟩=(⟨a,b1,wa++l1,wb2,bad⟩,g1)∧Pr.Ok1 ⟨a,b,wa,wb,bad⟩:=by
 rcases h with ⟨rfl,rfl,rfl,rfl,rfl⟩ | ⟨m,rfl,h,rfl⟩
 ·exact⟨show _=((⟨a,b1,wa++[],[],bad⟩:Pr),false) by rw[List.append_nil];rfl,trivial⟩
 ·refine⟨?_,h.ok,⟨h.inv,h.kind,?_,?_⟩,?_⟩
  ·show ((⟨a,(b.hear m).1,wa++(b.hear m).2.1,wb2,bad || decide ((b.hear m).2.2≠0)⟩:Pr),true)=_
   rw[h.eq]
   simp
  ·rw[h.eq];exact h.says
  ·have:=h.few
   rw[h.eq]
   show wa.length+l1.length≤_
   omega
  ·have:=f.2
   rw[List.length_cons] at this
   omega
theorem q9k(C:qf0 a wa a1 l0 wa1 g0)(D:qf0 b (wb++l0) b1 l1 wb2 g1)(l:SignSt a1 a2 Ma Ea)(o:SignSt b1 b2 Mb Eb)(f:wa.length≤1000∧wb.length≤1000)(f1:wa1.length≤1000∧(wb++l0).length≤1000)(f2:(wa1++l1).length≤1000∧wb2.length≤1000) :
  (Pr.mk a b wa wb bad).RoundOk∧(Pr.mk a b wa wb bad).round=⟨a2,b2,if Eb=0 then wa1++l1++[Mb] else wa1++l1,if Ea=0 then wb2++[Ma] else wb2,bad⟩∧(Pr.mk a b wa wb bad).went=(g1 || g0 || (Ea==0) || (Eb==0)):=by
 obtain⟨t,E⟩:=zfj (b:=b) (bad:=bad) C f
 obtain⟨v,F⟩:=zfk (a:=a1) (bad:=bad) D f1
 have q:(Pr.mk a b wa wb bad).hears0.1=⟨a1,b,wa1,wb++l0,bad⟩:=by rw[t]
 have g:(Pr.mk a b wa wb bad).hears0.1.hears1.1=⟨a1,b1,wa1++l1,wb2,bad⟩:=by rw[q,v]
 have i:(Pr.mk a1 b1 (wa1++l1) wb2 bad).sign0=⟨a2,b1,wa1++l1,if Ea=0 then wb2++[Ma] else wb2,bad⟩:=by
  unfold Pr.sign0
  simp only[l.eq]
 have w:(Pr.mk a2 b1 (wa1++l1) (if Ea=0 then wb2++[Ma] else wb2) bad).sign1=⟨a2,b2,if Eb=0 then wa1++l1++[Mb] else wa1++l1,if Ea=0 then wb2++[Ma] else wb2,bad⟩:=by
  unfold Pr.sign1
  simp only[o.eq]
 refine⟨⟨E,?_,?_,?_,?_,?_,?_,?_⟩,?_,?_⟩
 ·rw[q];exact F
 ·rw[g];exact l.sok
 ·rw[g,i];exact o.sok
 ·rw[g];show MsgOk a1.sign.2.1;rw[l.eq];exact l.ok
 ·rw[g,i];show MsgOk b1.sign.2.1;rw[o.eq];exact o.ok
 ·rw[g];show wb2.length<_;omega
 ·rw[g,i];show (wa1++l1).length<_;omega
 ·unfold Pr.round
  rw[g,i,w]
 ·unfold Pr.went
  rw[g,i,q,v,t]
  simp only[l.eq,o.eq]
theorem go_round(g:qf0 a wa a1 l0 wa1 g0)(i:qf0 b (wb++l0) b1 l1 wb2 g1)(v:SignSt a1 a2 Ma Ea)(w:SignSt b1 b2 Mb Eb)(f:wa.length≤1000∧wb.length≤1000)(f1:wa1.length≤1000∧(wb++l0).length≤1000)(f2:(wa1++l1).length≤1000∧wb2.length≤1000)
  (l:(g1 || g0 || (Ea==0) || (Eb==0))=true) (next:Rests n ⟨a2,b2,if Eb=0 then wa1++l1++[Mb] else wa1++l1,if Ea=0 then wb2++[Ma] else wb2,bad⟩ Q):Rests (n+1) ⟨a,b,wa,wb,bad⟩ Q:=by
 obtain⟨o,q,t⟩:=q9k (bad:=bad) g i v w f f1 f2
 exact .step n _ Q o (by rw[t];exact l) (by rw[q];exact next)
end
def qv6(xs:List Live):Prop:=∀x∈xs,0≤x.state∧x.state≤9
def qj8(ours:Bool)(ev:Int):Prop:=(ours=false∧(ev=2∨ev=3∨ev=4))∨(ours=true∧(ev=1∨ev=2∨ev=4))
theorem q15:∀(own:Bool) (s:Fin 10),∀ev:Fin 5,∀ours:Bool,((ours=false∧(ev.val=2∨ev.val=3∨ev.val=4))∨(ours=true∧(ev.val=1∨ev.val=2∨ev.val=4))) →
  qcs ours own (qv (s.val:Int) own (ev.val:Int))=qcs ours own (s.val:Int)∧(qcs ours own (s.val:Int)=false→qd5 ours own (qv (s.val:Int) own (ev.val:Int))=qd5 ours own (s.val:Int)):=by decide +kernel
theorem qt4{ours own:Bool}{s ev:Int}(h:qj8 ours ev)(l:0≤s∧s≤9):qcs ours own (qv s own ev)=qcs ours own s∧(qcs ours own s=false→qd5 ours own (qv s own ev)=qd5 ours own s):=by
 have i:0≤ev∧ev<5:=by rcases h with ⟨-,e | e | e⟩ | ⟨-,e | e | e⟩<;>omega
 have f:((s.toNat:Nat):Int)=s:=by omega
 have g:((ev.toNat:Nat):Int)=ev:=by omega
 have:=q15 own ⟨s.toNat,by omega⟩ ⟨ev.toNat,by omega⟩ ours (by
  rcases h with ⟨a,e | e | e⟩ | ⟨a,e | e | e⟩
  ·exact .inl ⟨a,.inl (by show ev.toNat=2;omega)⟩
  ·exact .inl ⟨a,.inr (.inl (by show ev.toNat=3;omega))⟩
  ·exact .inl ⟨a,.inr (.inr (by show ev.toNat=4;omega))⟩
  ·exact .inr ⟨a,.inl (by show ev.toNat=1;omega)⟩
  ·exact .inr ⟨a,.inr (.inl (by show ev.toNat=2;omega))⟩
  ·exact .inr ⟨a,.inr (.inr (by show ev.toNat=4;omega))⟩)
 simp only[f,g] at this
 exact this
theorem q92{ours:Bool}{ev:Int}(h:qj8 ours ev){x:Live}(l:0≤x.state∧x.state≤9)(p:Int × Int):qbj ours p (aft ev x)=qbj ours p x:=by
 obtain⟨f,g⟩:=qt4 (own:=x.own) h l
 unfold qbj
 show (if qcs ours x.own (qv x.state x.own ev)=true then p else if (qd5 ours x.own (qv x.state x.own ev)&&x.paid)=true then _ else _)=_
 rw[f]
 cases i:qcs ours x.own x.state with
 | true=>rfl
 | false=>rw[g i];rfl
theorem q94{ours:Bool}{ev:Int}(h:qj8 ours ev)(l r:Int){xs:List Live}(f:qv6 xs):zn ours l r (qz ev xs)=zn ours l r xs:=by
 unfold zn qz
 have key:∀(xs:List Live) (p:Int × Int),qv6 xs→(xs.map (aft ev)).foldl (qbj ours) p=xs.foldl (qbj ours) p:=by
  intro xs
  induction xs with
  | nil=>intro p _;rfl
  | cons x xs i =>
   intro p f
   rw[List.map_cons,List.foldl_cons,List.foldl_cons,q92 h (f x (List.mem_cons_self ..)),i _ (fun y g=>f y (List.mem_cons_of_mem _ g))]
 exact key xs (l,r) f
theorem q4v{ours:Bool}{ev:Int}(h:qj8 ours ev){xs:List Live}(g:qv6 xs):zb ours (qz ev xs)=zb ours xs:=by
 unfold zb qz
 induction xs with
 | nil=>rfl
 | cons x xs f =>
  have f:=f (fun y l=>g y (List.mem_cons_of_mem _ l))
  have i:qcs ours (aft ev x).own (aft ev x).state=qcs ours x.own x.state:=(qt4 (own:=x.own) h (g x (List.mem_cons_self ..))).1
  rw[List.map_cons,List.filter_cons,List.filter_cons,i]
  cases qcs ours x.own x.state with
  | true=>simp only[if_true,List.map_cons];rw[f];rfl
  | false=>simpa using f
theorem qia(ours:Bool)(y:Live)(L:List Live):∀p:Int × Int,L.foldl (qbj ours) (qbj ours p y)=qbj ours (L.foldl (qbj ours) p) y:=by
 induction L with
 | nil=>intro p;rfl
 | cons x L f =>
  intro p
  rw[List.foldl_cons,List.foldl_cons,q51,f]
theorem qxe(ours own:Bool):qcs ours own 9=false∧qd5 ours own 9=true:=by cases ours<;>cases own<;>decide
theorem qsz(c:Ch)(f:Bool)(n:Int):((c.give f n).loc,(c.give f n).rem)=qc1 f n (c.loc,c.rem):=by
 unfold Ch.give qc1
 cases f<;>rfl
theorem qtv(ours:Bool)(f:List Live):∀c:Ch,zn ours (f.foldl qbp c).loc (f.foldl qbp c).rem (qa8 f)=zn ours c.loc c.rem f:=by
 unfold zn
 induction f with
 | nil=>intro c;rfl
 | cons y f m =>
  intro c
  rw[List.foldl_cons,List.foldl_cons]
  by_cases g:y.state=9
  ·have i:qbp c y=c.give (y.own != y.paid) y.h.amount:=by unfold qbp;rw[if_pos g]
   have l:qa8 (y::f)=qa8 f:=by unfold qa8;rw[List.filter_cons,g];rfl
   have o:qbj ours (c.loc,c.rem) y=qc1 (y.own != y.paid) y.h.amount (c.loc,c.rem):=by
    unfold qbj
    obtain⟨a1,a2⟩:=qxe ours y.own
    rw[g,a1,a2]
    cases y.own<;>cases y.paid<;>rfl
   rw[i,l,m,qsz,o]
  ·have i:qbp c y=c:=by unfold qbp;rw[if_neg g]
   have l:qa8 (y::f)=y::qa8 f:=by
    unfold qa8
    rw[List.filter_cons]
    have:(!(y.state==9))=true:=by simpa using g
    rw[this]
    rfl
   rw[i,l,List.foldl_cons,qia,m,qia]
theorem qqq(ours:Bool)(g:List Live):zb ours (qa8 g)=zb ours g:=by
 unfold zb qa8
 rw[List.filter_filter]
 congr 1
 refine List.filter_congr fun x _=> ?_
 by_cases f:x.state=9
 ·rw[f,(qxe ours x.own).1];rfl
 ·have:(!(x.state==9))=true:=by simpa using f
  rw[this,Bool.and_true]
theorem q6e{ours:Bool}{ev:Int}(h:qj8 ours ev)(c:Ch)(f:qv6 c.xs):zn ours (c.goOn ev).loc (c.goOn ev).rem (c.goOn ev).xs=zn ours c.loc c.rem c.xs∧zb ours (c.goOn ev).xs=zb ours c.xs:=by
 refine⟨?_,?_⟩
 ·show zn ours ((qz ev c.xs).foldl qbp c).loc ((qz ev c.xs).foldl qbp c).rem (qa8 (qz ev c.xs))=_
  rw[qtv,q94 h _ _ f]
 ·show zb ours (qa8 (qz ev c.xs))=_
  rw[qqq,q4v h f]
theorem qnb{ours:Bool}{ev:Int}(h:qj8 ours ev)(key:ByteArray)(ch n:Int)(c:Ch)(i:qv6 c.xs):z8 ours key ch n (c.goOn ev).loc (c.goOn ev).rem (c.goOn ev).xs=z8 ours key ch n c.loc c.rem c.xs:=by
 obtain⟨f,g⟩:=q6e h c i
 unfold z8 qhr qhs
 rw[f,g]
end Go.Proofs.YtjpmomdechibmaaGreatDoor
