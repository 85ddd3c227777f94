/- the texts of types and expressions: types.Text, expr.Text; castingsref04.Text, castingsref05.Text -/
import Derived.Test.YtfjaahliphbklaaGreatDoorJS90
import Derived.Test.YtfjaahliphbklaaGreatDoorJS36
namespace Go.Abs
set_option linter.unusedSimpArgs false
set_option linter.unusedVariables false
open Go Go.Proofs
set_option maxRecDepth 100000
set_option maxHeartbeats 1000000
abbrev E7o:Str:=[44,32]
mutual
def Ty.txt:Ty→Str
 | .mk n a _=>if a.isEmpty=true then n else n++[91]++Lib.join (Ty.txtL a) E7o++[93]
def Ty.txtL:List Ty→List Str
 | []=>[]
 | t::ts=>t.txt::Ty.txtL ts
end
mutual
def Ty.tlen:Ty→Nat
 | .mk n a _=>n.length+4+Ty.tlenL a
def Ty.tlenL:List Ty→Nat
 | []=>0
 | t::ts=>t.tlen+Ty.tlenL ts
end
theorem Ty.tlen_eq (t:Ty):t.tlen=t.name.length+4+Ty.tlenL t.args:=by cases t;rfl
def F8c (l:List Str):Nat:=(l.map fun s=>s.length+2).sum
theorem A5a:∀ {l:List Ty} {t:Ty},t∈l→t.tlen≤Ty.tlenL l
 | [],_,h=>by simp at h
 | x::l,t,h=>by
  simp only [Ty.tlenL];rcases List.mem_cons.1 h with rfl | h
  ·omega
  ·have:=A5a h;omega
theorem C3j:∀ l:List Ty,l.length≤Ty.tlenL l
 | []=>Nat.le_refl _
 | x::l=>by have:=C3j l;have:=Ty.tlen_eq x;simp only [Ty.tlenL,List.length_cons];omega
def Ty.pre (t:Ty)(j:Nat):Str:=if j=0 then t.name else t.name++[91]++Lib.join ((t.args.take j).map Ty.txt) E7o
def F6u (l:List Ty):Str:=if l=[] then [] else [91]++Lib.join (l.map Ty.txt) E7o++[93]
def G4s (k:Int)(n:Str)(t:Ty)(a:List Ty)(ks:List Str):Str :=
 if k=2 then ks.headD []++[46]++n++F6u a++[40]++Lib.join (ks.drop 1) E7o++[41]
 else if k=3 then t.txt++[123]++Lib.join ks E7o++[125]
 else if k=4 then ks.headD []++[46]++n
 else if k=5 then ks.headD []++[46,40]++t.txt++[41]
 else n
mutual
def Ex.txt:Ex→Str
 | .mk k n t a ks _=>G4s k n t a (Ex.txtL ks)
def Ex.txtL:List Ex→List Str
 | []=>[]
 | e::es=>e.txt::Ex.txtL es
end
mutual
def Ex.xlen:Ex→Nat
 | .mk _ n t a ks _=>n.length+10+t.tlen+Ty.tlenL a+Ex.xlenL ks
def Ex.xlenL:List Ex→Nat
 | []=>0
 | e::es=>e.xlen+Ex.xlenL es
end
theorem Ex.xlen_eq (e:Ex):e.xlen=e.name.length+10+e.type.tlen+Ty.tlenL e.targs+Ex.xlenL e.kids:=by cases e;rfl
theorem D3j:∀ {l:List Ex} {t:Ex},t∈l→t.xlen≤Ex.xlenL l
 | [],_,h=>by simp at h
 | x::l,t,h=>by
  simp only [Ex.xlenL];rcases List.mem_cons.1 h with rfl | h
  ·omega
  ·have:=D3j h;omega
inductive Ex.Shp:Ex→Prop where
 | mk (k:Int) (n:Str) (t:Ty) (a:List Ty) (ks:List Ex) (q:Int):(k=1∨k=2∨k=3∨k=4∨k=5)→(k=2∨k=4∨k=5→ks≠[])→(k=5→n=[])→(∀ e,e∈ks→Ex.Shp e)→Ex.Shp (.mk k n t a ks q)
theorem Ex.Shp.kids {e:Ex} (h:e.Shp):∀ x,x∈e.kids→x.Shp:=by cases h;assumption
theorem Ex.Shp.some {e:Ex} (h:e.Shp)(hk:e.kind=2∨e.kind=4∨e.kind=5):∃ v,e.kids[0]? = some v:=by
 cases h with
 | mk k n t a ks q _ h2 _ _ =>
  have:=h2 hk;cases ks with
  | nil=>exact absurd rfl this
  | cons v _=>exact⟨v,rfl⟩
theorem Ex.Shp.kind {e:Ex} (h:e.Shp):e.kind=1∨e.kind=2∨e.kind=3∨e.kind=4∨e.kind=5:=by cases h;assumption
theorem Ex.Shp.name {e:Ex} (h:e.Shp):e.kind=5→e.name=[]:=by cases h;assumption
end Go.Abs
