/- the order of types and calls -/
import Derived.Test.YtieakoebgfiniaaGreatDoorZU01
import Derived.Test.YtieakoebgfiniaaGreatDoorZDr2
set_option linter.all false
set_option maxHeartbeats 2000000
set_option maxRecDepth 100000
namespace Go.Abs
open Go Go.Proofs Go.Sort
def T3(a b c:Int):Prop:=(a<0->b<=0->c<0)/\(a<=0->b<0->c<0)/\(a=0->b=0->c=0)
def T3.lex{I J E O L U:Int}(h:T3 I J E)(k:T3 O L U):T3 (if I≠0 then I else O) (if J≠0 then J else L) (if E≠0 then E else U):=by obtain⟨h1,h2,h3⟩:=h;obtain⟨k1,k2,k3⟩:=k;by_cases W:I=0 <;> by_cases V:J=0 <;> by_cases Z:E=0 <;> simp only[W,V,Z,ne_eq,not_true,not_false_iff,Af,Fx] <;> refine⟨λ_ _=>?_,λ_ _=>?_,λ_ _=>?_⟩ <;> omega
def E3n(a b c:A2):T3 (Bt a b) (Bt b c) (Bt a c):=by
 refine⟨λI E=>?_,λI E=>?_,λI E=>?_⟩
 .by_cases h:Bt b c=0
  .rw[Se]at h;rw[<-h];exact I
  .exact B4q a b c I (by omega)
 .by_cases h:Bt a b=0
  .rw[Se]at h;rw[h];exact E
  .exact B4q a b c (by omega) E
 .rw[Se]at I E |-;rw[I,E]
def D7i:∀l m n:List Ty,(∀t,t∈l->∀u v,T3 (E6 t u) (E6 u v) (E6 t v))->T3 (E8 l m) (E8 m n) (E8 l n)
 |[],[],[],_=>by simp[E8,T3]
 |[],[],_::_,_=>by simp[E8,T3]
 |[],_::_,[],_=>by simp[E8,T3]
 |[],_::_,_::_,_=>by simp[E8,T3]
 |_::_,[],[],_=>by simp[E8,T3]
 |_::_,[],_::_,_=>by simp[E8,T3]
 |_::_,_::_,[],_=>by simp only[E8];exact⟨λ_ h=>by omega,λ_ h=>by omega,λ_ h=>by omega⟩
 |x::xs,y::ys,z::E,h=>by rw[E8,E8,E8];exact(h x (by simp) y z).lex (D7i xs ys E λt ht=>h t (by simp[ht]))
def C5t(t:Ty):∀u v,T3 (E6 t u) (E6 u v) (E6 t v):=by
 induction t using Ty.induct with
 |h t E =>
 intro u v;rw[A1b,A1b,A1b];exact(E3n _ _ _).lex (D7i _ _ _ E)
def D9n:∀l m:List Ty,(∀t,t∈l->∀u,E6 u t = - E6 t u)->E8 m l = - E8 l m
 |[],[],_=>by simp[E8]
 |[],_::_,_=>by simp[E8]
 |_::_,[],_=>by simp[E8]
 |x::xs,y::ys,h=>by rw[E8,E8,h x (by simp) y,D9n xs ys λt ht=>h t (by simp[ht])];by_cases e:E6 x y=0 <;> simp[e]
def C8k(t:Ty):∀u,E6 u t = - E6 t u:=by
 induction t using Ty.induct with
 |h t E =>
 intro u;rw[A1b,A1b,X4 t.name u.name,D9n _ _ E];by_cases e:Bt t.name u.name=0 <;> simp[e]
def B0p(a b:B9):Dn a b=if E6 a.on b.on≠0 then E6 a.on b.on else if Bt a.name b.name≠0 then Bt a.name b.name else E6 (.mk [] a.targs 0) (.mk [] b.targs 0):=by unfold Dn;by_cases e:E6 a.on b.on=0 <;> by_cases k:Bt a.name b.name=0 <;> simp[e,k]
def C3d(a b c:B9):T3 (Dn a b) (Dn b c) (Dn a c):=by rw[B0p,B0p,B0p];exact(C5t _ _ _).lex ((E3n _ _ _).lex (C5t _ _ _))
theorem C0b(a b:B9):Dn b a = - Dn a b:=by rw[B0p,B0p,C8k a.on b.on,X4 a.name b.name,C8k (.mk [] a.targs 0) (.mk [] b.targs 0)];by_cases e:E6 a.on b.on=0 <;> by_cases k:Bt a.name b.name=0 <;> simp[e,k]
def D9b(a:B9):Dn a a=0:=by have:=C0b a a;omega
open Go Go.Proofs
open Go Go.Proofs Go.Sort
instance:Inhabited B9:=⟨⟨.mk [] [] 0,[],[]⟩⟩
def ccN(l:List B9)(i:Nat):B9:=(l[i]?).getD default
structure H5z(C:Ctx)(S:Nat->Prop)(w:World)(β:Names)(bx:Ab)(k:Nat)(l:List B9)(b:Nat)(enc:Nat->List Value):Prop where
 len:∀i,(enc i).length=5
 one:∀i,∀v∈enc i,v.oneCell'=true
 zero:enc l.length=[.string ⟨#[]⟩,.slice none 0 0,.int .i64 0,.string ⟨#[]⟩,.slice none 0 0]
 lt:b<w.heap.size
 holds:HoldsK enc 5 w b ((β k).off*5) (Array.range l.length)
 row:∀(m:Nat) (os:Array Obj) (dk:Array Nat) (i:Nat),Am (all (sortWorldK enc 5 w b ((β k).off*5) m dk os)) (sortWorldK enc 5 w b ((β k).off*5) m dk os) β (caV (ccN l i)) (.agg (enc i).toArray)
 E2:∀(m:Nat) (os:Array Obj) (dk:Array Nat) b' cs,A9q C.G.sy C.G.ra b' cs->∃ty fr,(sortWorldK enc 5 w b ((β k).off*5) m dk os).heap[b']?=some (.cells cs ty fr)
 inv:∀(m:Nat) (os:Array Obj) (dk:Array Nat),dk.size=l.length->Inv C S (sortWorldK enc 5 w b ((β k).off*5) m dk os) β ((k,.rows 5 (Mn (dk.toList.map (ccN l))))::Cd k bx)/\C4 S w S (sortWorldK enc 5 w b ((β k).off*5) m dk os)
end Go.Abs
