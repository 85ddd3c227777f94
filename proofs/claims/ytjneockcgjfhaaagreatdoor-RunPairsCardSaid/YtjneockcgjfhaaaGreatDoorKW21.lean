/- the order of types and calls -/
import Derived.Test.YtjneockcgjfhaaaGreatDoorKU01
import Derived.Test.YtjneockcgjfhaaaGreatDoorKDr2
set_option linter.all false
set_option maxHeartbeats 2000000
set_option maxRecDepth 100000
namespace Go.Abs
open Go Go.Proofs Go.Sort
def T3(a b c:Int):Prop:=(a<0->b<=0->c<0)/\(a<=0->b<0->c<0)/\(a=0->b=0->c=0)
def T3.lex{I E J L O U:Int}(h:T3 I E J)(k:T3 L O U):T3 (if I≠0 then I else L) (if E≠0 then E else O) (if J≠0 then J else U):=by obtain⟨h1,h2,h3⟩:=h;obtain⟨k1,k2,k3⟩:=k;by_cases Z:I=0 <;> by_cases V:E=0 <;> by_cases W:J=0 <;> simp only[Z,V,W,ne_eq,not_true,not_false_iff,Ac,Fm] <;> refine⟨λ_ _=>?_,λ_ _=>?_,λ_ _=>?_⟩ <;> omega
def E1q(a b c:A2):T3 (Bw a b) (Bw b c) (Bw a c):=by refine⟨λE I=>?_,λE I=>?_,λE I=>?_⟩;by_cases h:Bw b c=0;rw[Tx]at h;rw[<-h];exact E;exact B1i a b c E (by omega);by_cases h:Bw a b=0;rw[Tx]at h;rw[h];exact I;exact B1i a b c (by omega) I;rw[Tx]at E I |-;rw[E,I]
def E5d:∀l m n:List Ty,(∀t,t∈l->∀u v,T3 (E6 t u) (E6 u v) (E6 t v))->T3 (E7 l m) (E7 m n) (E7 l n)
 |[],[],[],_=>by simp[E7,T3]
 |[],[],_::_,_=>by simp[E7,T3]
 |[],_::_,[],_=>by simp[E7,T3]
 |[],_::_,_::_,_=>by simp[E7,T3]
 |_::_,[],[],_=>by simp[E7,T3]
 |_::_,[],_::_,_=>by simp[E7,T3]
 |_::_,_::_,[],_=>by simp only[E7];exact⟨λ_ h=>by omega,λ_ h=>by omega,λ_ h=>by omega⟩
 |x::xs,y::E,z::I,h=>by rw[E7,E7,E7];exact(h x (by simp) y z).lex (E5d xs E I λt ht=>h t (by simp[ht]))
def C5s(t:Ty):∀u v,T3 (E6 t u) (E6 u v) (E6 t v):=by
 induction t using Ty.induct with
 |h t E =>
 intro u v;rw[A3r,A3r,A3r];exact(E1q _ _ _).lex (E5d _ _ _ E)
def D3u:∀l m:List Ty,(∀t,t∈l->∀u,E6 u t = - E6 t u)->E7 m l = - E7 l m
 |[],[],_=>by simp[E7]
 |[],_::_,_=>by simp[E7]
 |_::_,[],_=>by simp[E7]
 |x::xs,y::E,h=>by rw[E7,E7,h x (by simp) y,D3u xs E λt ht=>h t (by simp[ht])];by_cases e:E6 x y=0 <;> simp[e]
def C4a(t:Ty):∀u,E6 u t = - E6 t u:=by
 induction t using Ty.induct with
 |h t E =>
 intro u;rw[A3r,A3r,Yf t.name u.name,D3u _ _ E];by_cases e:Bw t.name u.name=0 <;> simp[e]
def A8j(a b:B8):Dk a b=if E6 a.on b.on≠0 then E6 a.on b.on else if Bw a.name b.name≠0 then Bw a.name b.name else E6 (.mk [] a.targs 0) (.mk [] b.targs 0):=by unfold Dk;by_cases e:E6 a.on b.on=0 <;> by_cases k:Bw a.name b.name=0 <;> simp[e,k]
def C7e(a b c:B8):T3 (Dk a b) (Dk b c) (Dk a c):=by rw[A8j,A8j,A8j];exact(C5s _ _ _).lex ((E1q _ _ _).lex (C5s _ _ _))
theorem B6r(a b:B8):Dk b a = - Dk a b:=by rw[A8j,A8j,C4a a.on b.on,Yf a.name b.name,C4a (.mk [] a.targs 0) (.mk [] b.targs 0)];by_cases e:E6 a.on b.on=0 <;> by_cases k:Bw a.name b.name=0 <;> simp[e,k]
def D4a(a:B8):Dk a a=0:=by have:=B6r a a;omega
open Go Go.Proofs
open Go Go.Proofs Go.Sort
instance:Inhabited B8:=⟨⟨.mk [] [] 0,[],[]⟩⟩
def ccN(l:List B8)(i:Nat):B8:=(l[i]?).getD default
structure H1o(C:Ctx)(S:Nat->Prop)(w:World)(β:Names)(bx:Aa)(k:Nat)(l:List B8)(b:Nat)(enc:Nat->List Value):Prop where
 len:∀i,(enc i).length=5
 one:∀i,∀v∈enc i,v.oneCell'=true
 zero:enc l.length=[.string ⟨#[]⟩,.slice none 0 0,.int .i64 0,.string ⟨#[]⟩,.slice none 0 0]
 lt:b<w.heap.size
 holds:HoldsK enc 5 w b ((β k).off*5) (Array.range l.length)
 row:∀(m:Nat) (os:Array Obj) (dk:Array Nat) (i:Nat),An (all (sortWorldK enc 5 w b ((β k).off*5) m dk os)) (sortWorldK enc 5 w b ((β k).off*5) m dk os) β (caV (ccN l i)) (.agg (enc i).toArray)
 Dv:∀(m:Nat) (os:Array Obj) (dk:Array Nat) b' cs,A2s C.G.sy C.G.ra b' cs->∃ty fr,(sortWorldK enc 5 w b ((β k).off*5) m dk os).heap[b']?=some (.cells cs ty fr)
 inv:∀(m:Nat) (os:Array Obj) (dk:Array Nat),dk.size=l.length->Inv C S (sortWorldK enc 5 w b ((β k).off*5) m dk os) β ((k,.rows 5 (N8 (dk.toList.map (ccN l))))::C5 k bx)/\C9 S w S (sortWorldK enc 5 w b ((β k).off*5) m dk os)
end Go.Abs
