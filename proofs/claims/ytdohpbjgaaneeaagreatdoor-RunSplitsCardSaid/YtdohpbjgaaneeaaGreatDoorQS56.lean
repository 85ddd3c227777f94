/- what castingsref15.Head, castingsref16.Type, castingsref17.Program and infer compute -/
import Derived.Test.YtdohpbjgaaneeaaGreatDoorQS51
import Derived.Test.YtdohpbjgaaneeaaGreatDoorQS38
import Derived.Test.YtdohpbjgaaneeaaGreatDoorQFB
import Derived.Test.YtdohpbjgaaneeaaGreatDoorQAb12
import Derived.Test.YtdohpbjgaaneeaaGreatDoorQS25
namespace Go.Abs
set_option linter.unusedSimpArgs false
set_option linter.unusedVariables false
open Go Go.Proofs
set_option maxRecDepth 100000
set_option maxHeartbeats 1000000
structure TCtx where
 p:Prog
 strict:Bool
 env:List Formal
 vars:List Param
def ty0:Ty:=.mk [] [] 0
def noT (n:Int):Ty × Res:=(ty0,badR n)
abbrev TO:=Ty × Option Int
def noI (n:Int):TO:=(ty0,some n)
def Agree (a:Ty × Res)(b:TO):Prop:=a.2.large=true∧a.2.bad=true∨a.2.large=false∧(a.2.bad=true∧b.2=some a.2.pos∨a.2.bad=false∧a.2.pos=0∧b=(a.1,none))
theorem Agree.no (n:Int):Agree (noT n) (noI n):=.inr ⟨rfl,.inl ⟨rfl,rfl⟩⟩
def varTs (l:List Str):List Ty:=l.map fun v=>.mk v [] 0
def envR (p:Prog)(d:Decl):List Formal:=((formalsT p d.name).zip d.vars).map fun z=>⟨z.2,z.1.bound.subst (fnames (formalsT p d.name)) (varTs d.vars),z.1.pos⟩
def selfT (d:Decl):Ty:=.mk d.name (varTs d.vars) 0
structure Decl.Two (d:Decl):Prop where
 sigs:∀ s,s∈d.sigs→d.formals.length+s.formals.length≤sm
 sig:d.vars.length+d.sig.formals.length≤sm
theorem Decl.Nn.two {d:Decl} (h:d.Nn):d.Two:=⟨fun s hs=>by have:=(h.sigs s hs).flen;have:=h.flen;unfold sm;omega,by have:=h.sig.flen;have:=h.vlen;unfold sm;omega⟩
structure TCtx.Sm (c:TCtx):Prop where
 p:c.p.Sm
 el:c.env.length≤sm
 env:∀ f,f∈c.env→f.Sm
 vl:c.vars.length≤sm
 vars:∀ f,f∈c.vars→f.Sm
set_option maxHeartbeats 4000000
end Go.Abs
