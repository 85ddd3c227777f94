/- what castingsref15.Head, castingsref16.Type, castingsref17.Program and infer compute -/
import Derived.Test.YtgjfipagmicdnaaGreatDoorMS51
import Derived.Test.YtgjfipagmicdnaaGreatDoorMS37
import Derived.Test.YtgjfipagmicdnaaGreatDoorMFB
namespace Go.Abs
set_option linter.unusedSimpArgs false
set_option linter.unusedVariables false
open Go Go.Proofs
set_option maxRecDepth 100000
set_option maxHeartbeats 1000000
structure TCtx where
 p:Prog
 strict:Bool
 env:List Formal
 vars:List Param
def ty0:Ty:=.mk [] [] 0
def noT (n:Int):Ty × Res:=(ty0,badR n)
abbrev TO:=Ty × Option Int
def noI (n:Int):TO:=(ty0,some n)
def Agree (a:Ty × Res)(b:TO):Prop:=a.2.large=true∧a.2.bad=true∨a.2.large=false∧(a.2.bad=true∧b.2=some a.2.pos∨a.2.bad=false∧a.2.pos=0∧b=(a.1,none))
theorem Agree.no (n:Int):Agree (noT n) (noI n):=.inr ⟨rfl,.inl ⟨rfl,rfl⟩⟩
def varTs (l:List Str):List Ty:=l.map fun v=>.mk v [] 0
def envR (p:Prog)(d:Decl):List Formal:=((formalsT p d.name).zip d.vars).map fun z=>⟨z.2,z.1.bound.subst (fnames (formalsT p d.name)) (varTs d.vars),z.1.pos⟩
def sigsR (p:Prog)(env:List Formal)(pre:List Str):List Sig→Option Int
 | []=>none
 | s::ss=>if s.name∈pre then some s.pos else match sigR p env s with
  | some q=>some q
  | none=>sigsR p env (pre++[s.name]) ss
def varsR (p:Prog)(pre:List Str):List Str→Bool
 | []=>false
 | v::vs=>decide (kindOf p v≠0∨v∈pre) || varsR p (pre++[v]) vs
theorem varTs_Sm {d:Decl} (hd:d.Sm):∀ u,u∈varTs d.vars→u.Sm:=by
 intro u hu
 obtain⟨v,hv,rfl⟩:=List.mem_map.1 hu
 exact .mk _ _ _ (hd.vars.2 v hv) (by simp) (by simp)
theorem envR_Sm {p:Prog} (h:p.Sm) {d:Decl} (hd:d.Sm):∀ f,f∈envR p d→f.Sm:=by
 intro f hf
 unfold envR at hf
 obtain⟨⟨l,v⟩,hz,rfl⟩:=List.mem_map.1 hf
 have hl:=(formalsT_Sm h d.name).2 l (List.of_mem_zip hz).1
 exact⟨hd.vars.2 v (List.of_mem_zip hz).2,hl.bound.subst (varTs_Sm hd)⟩
theorem envR_len (p:Prog)(d:Decl):(envR p d).length≤d.vars.length:=by
 unfold envR;rw [List.length_map,List.length_zip];omega
structure Decl.Two (d:Decl):Prop where
 sigs:∀ s,s∈d.sigs→d.formals.length+s.formals.length≤sm
 sig:d.vars.length+d.sig.formals.length≤sm
theorem Decl.Nn.two {d:Decl} (h:d.Nn):d.Two:=⟨fun s hs=>by have:=(h.sigs s hs).flen;have:=h.flen;unfold sm;omega,by have:=h.sig.flen;have:=h.vlen;unfold sm;omega⟩
end Go.Abs
