/-
  Two duets, apart.
-/
import Derived.Test.YthnohmjbbeahmaaGreatDoorLvD
set_option linter.unusedVariables false
set_option linter.unusedSimpArgs false
namespace Go.Proofs.YthnohmjbbeahmaaGreatDoor
open Go.RowKit
def qe8(w0 w:World)(p q:Nat)(P Q:Pr):Prop:=∃S T,DuD w0 w p S P∧DuD w0 w q T Q∧∀b,S b→¬T b
section
variable {w0 w w':World}{p q:Nat}{P P' Q:Pr}{k:Nat}{K:Kon}{n:Nat}
theorem qe8.swap(h:qe8 w0 w p q P Q):qe8 w0 w q p Q P:=by
 obtain⟨S,T,g,i,l⟩:=h;exact⟨T,S,i,g,fun b m o=>l b o m⟩
theorem qe8.a(h:qe8 w0 w p q P Q):DuW w0 w p P:=by
 obtain⟨S,T,g,i,l⟩:=h;exact⟨S,g⟩
theorem qe8.toN(h:qe8 w0 w p q P Q):qq w0 w:=h.a.n
theorem qe8.new(h:qe8 w0 w p q P Q)(n:qq w w'):qe8 w0 w' p q P Q:=by
 obtain⟨S,T,g,i,l⟩:=h;exact⟨S,T,g.new n,i.new n,l⟩
theorem qe8.step{F:FuncId}{args:Array Value}{i:Ending}(h:qe8 w0 w p q P Q)(st:∀S,DuD w0 w p S P→Calls Tryz.prog F args w fun e w'=>e=i∧DSt w0 w p S w' P'):Calls Tryz.prog F args w fun e w'=>e=i∧qe8 w0 w' p q P' Q:=by
 obtain⟨S,T,l,m,o⟩:=h;refine(st S l).mono ?_;rintro e w' ⟨v,hd,x⟩;refine⟨v,_,T,hd,m.upd x (fun b g=>⟨o b g,(l.lt b g).1⟩),?_⟩;rintro b (g | g) t
 ·exact o b g t
 ·have:=(m.lt b t).2;omega
theorem qe8.begin{w1 i:World}(h:DuW w0 w1 p P)(g:DuW w1 i q Q):qe8 w0 i p q P Q:=by
 obtain⟨S,h⟩:=h;obtain⟨T,g⟩:=g;refine⟨S,T,h.new g.n,g.base h.n,fun b l m=> ?_⟩;have:=(h.lt b l).2;have:=(g.lt b m).1;omega
theorem zhv(l:Tb w0)(i:K.Ok)(m:n<59000)(g:PInv K n P)(h:qe8 w0 w p q P Q)(x:ActD)(o:x.Ok) :
  Calls Tryz.prog 20 #[.pointer (some ⟨p,0,none⟩),.agg x.cells.toArray] w fun e w'=>e = .returned (.int .i64 0)∧qe8 w0 w' p q (P.doesD x) Q :=
 h.step fun _ h=>quy l i m g h x o
theorem zhw(l:Tb w0)(i:K.Ok)(o:n<59000)(g:PInv K n P)(h:qe8 w0 w p q P Q) :
  Calls Tryz.prog 13 #[.pointer (some ⟨p,0,none⟩)] w fun e w'=>e = .returned (.int .i64 (P.restN:Int))∧qe8 w0 w' p q P.restD Q:=by
 have m:=g.mu
 exact h.step fun _ h=>qhk l i (N:=n+P.mu) (by omega) h (Bnd.of g)
theorem zjd(l:Tb w0)(i:K.Ok)(t:n<59000)(g:PInv K n P)(h:qe8 w0 w p q P Q)(x y:Int)(m : -9223372036854775808≤x∧x≤9223372036854775807)(o : -9223372036854775808≤y∧y≤9223372036854775807) :
  Calls Tryz.prog 17 #[.pointer (some ⟨p,0,none⟩),.agg #[.int .i64 x,.int .i64 y]] w fun e w'=>e = .returned (.int .i64 0)∧qe8 w0 w' p q (P.cutD x y) Q :=
 h.step fun _ h=>qry l i (by omega) g h x y m o
theorem q5l{S:Nat→Prop}{g:Nat→Nat}(m:Tb w0)(H:DuG w0 w p S P g)(t:k<2):Calls Tryz.prog 21 #[.pointer (some ⟨g k,0,none⟩)] w fun e w'=>∃u,e = .returned u∧qq w w'∧qe6 w' u (P.en k).xs:=by
 obtain⟨i,l,-⟩:=H.opE m t;refine(qpi _ i _ w l).mono ?_;rintro e w' ⟨u,rfl,n,h | ⟨b,cap,rfl,v,o⟩⟩
 ·exact⟨u,rfl,n,.inl h⟩
 ·exact⟨_,rfl,n,.inr ⟨b,0,cap,rfl,o.toL⟩⟩
end
def qzd:List Leaf:=[.int .u64,.int .u64]
theorem Tryz.flatBs:qcp Tryz.prog 5 42=some qzd:=by kernel_rfl
theorem Tryz.eqBs:eqB Tryz.prog 5 42=true:=by kernel_rfl
theorem Tryz.aggBs:qht Tryz.prog 42=true:=by kernel_rfl
theorem qt2{x y:Int}(g:0≤x∧x<18446744073709551616)(i:0≤y∧y<18446744073709551616)(w:World):(binOp .neq 42 (.agg #[.int .u64 x,.int .u64 y]) (.agg #[.int .u64 x,.int .u64 y])).run Tryz.prog w = .ok (.bool false) w:=by
 have e:∀ {n:Int},0≤n∧n<18446744073709551616→(Lit.int .u64 n).wf=true:=fun h=>by
  simp[Lit.wf,IntKind.min,IntKind.max,IntKind.signed,IntKind.bits];omega
 have f:qda qzd [.int .u64 x,.int .u64 y]:=⟨_,_,rfl,⟨_,rfl,e g⟩,_,_,rfl,⟨_,rfl,e i⟩,rfl⟩;exact qkp 5 (by decide) Tryz.eqBs Tryz.flatBs Tryz.aggBs f f true (by simp) w
end Go.Proofs.YthnohmjbbeahmaaGreatDoor
