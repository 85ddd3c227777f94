/- underscores doubled: strings.ReplaceAll(s, "_", "__") -/
import Derived.Lib.ReplaceLaws
import Derived.Lib.Join
import Derived.Test.YtcmlfpcaeflleaaGreatDoorGS95
import Derived.Lib.SmallJoins
import Derived.Shelf.Strconv.Atoi
import Derived.Shelf.Strings.Replace
set_option linter.all false
set_option maxHeartbeats 2000000
set_option maxRecDepth 100000
namespace Go.Abs
open Go
def D5b(s:List UInt8):List UInt8:=s.flatMap λc=>if c=95 then[95,95]else[c]
abbrev usC:A3:=[95,67]
mutual
def Ty.mg:Ty->A3
 |.mk n a _=>if n.head? =some 36/\a.isEmpty=true then[95,86]++n.drop 1 else D5b n++(if a.isEmpty=true then[]else[95,76]++Lib.join (Ty.mgL a) usC++[95,82])
def Ty.mgL:List Ty->List A3
 |[]=>[]
 |t::ts=>t.mg::Ty.mgL ts
end
inductive Ty.Mg:Ty->Prop where
 |loc (i:Nat) (p:Int):i<=100000->Ty.Mg (.mk (G0 i) [] p)
 |Ys (n:A3) (a:List Ty) (p:Int):isName n=true->n.length<=sm->a.length<=sm->(∀t,t∈a->Ty.Mg t)->Ty.Mg (.mk n a p)
def Ty.Mg.at_{n:A3}{a:List Ty}{p:Int}(h:Ty.Mg (.mk n a p))(q:Int):Ty.Mg (.mk n a q):=by
 cases h with
 |loc i _ M=>exact .loc i q M
 |Ys _ _ _ I L J E=>exact .Ys n a q I L J E
def Ty.Mg.as_{u:Ty}(h:u.Mg)(q:Int):(Ty.mk u.name u.args q).Mg:=by obtain⟨n,a,p⟩:=u;exact h.at_ q
def C4k{l:List Ty}{i:Int}(I:0<=i)(h:i<l.length):(l[i.toNat]?).getD default∈l:=by
 have E:i.toNat<l.length:=by omega
 rw[B8 E];exact Fa E
def Ty.Mg.subst{v:List A3}{J:List Ty}(I:∀u,u∈J->u.Mg):∀{t:Ty},t.Mg->(t.subst v J).Mg:=by
 intro t ht
 induction ht with
 |loc i p U =>
  rw[Xj];split
  .rename_i E;exact(I _ (C4k E.2.1 E.2.2)).as_ _
  .exact .loc i p U
 |Ys n a p L O M Z V =>
  rw[Xj];split
  .rename_i E;exact(I _ (C4k E.2.1 E.2.2)).as_ _
  .refine .Ys _ _ _ L O (by rw[Bn];exact M) λt ht=>?_;obtain⟨u,W,rfl⟩:=B1.1 ht;exact V u W
def Ty.B0h:∀{t:Ty},t.Sm->t.right=true->t.Mg:=by
 intro t
 induction t using Ty.induct with
 |h t L =>
 intro hs hr;obtain⟨n,a,p⟩:=t;unfold Ty.right at hr;rw[Ty.C2h,Ro,Bc]at hr;refine .Ys n a p hr.1 hs.name hs.len λt ht=>L t ht (hs.arg t ht) ?_;unfold Ty.right;rw[Dr]at hr |-;refine λs I=>hr.2 s ?_;have:∀{l:List Ty} {t:Ty},t∈l->∀s,s∈t.names->s∈Ty.Lj l:=by
  intro l
  induction l with
  |nil=>intro t ht;simp at ht
  |cons x l J =>
   intro t ht s E;rw[Ty.Lj,D2];rcases Aw.1 ht with rfl|ht
   .exact .inl E
   .exact .inr (J ht s E)
 exact this ht s I
def D9y(i:Nat)(h:i<=100000):(Ve i).Mg:=.loc i 0 h
open Go Go.Proofs
def G2f(n:Nat)(h:n<=100000):(Lib.decDigits n).length<=6:=by
 have d1:∀n,n<10->(Lib.decDigits n).length=1:=λn h=>by rw[E6j h];rfl
 have st:∀n k,¬n<10->(Lib.decDigits (n / 10)).length<=k->(Lib.decDigits n).length<=k+1:=λn k h U=>by rw[E2v h,Bz];simp only[C6,Dy];omega
 have E:∀k B,(∀n,n<B->(Lib.decDigits n).length<=k)->1<=k->∀n,n<10*B->(Lib.decDigits n).length<=k+1:=λk B W U n J=>by
  by_cases I:n<10
  .rw[d1 n I];omega
  .exact st n k I (W _ (by omega))
 have M:=λn (J:n<10)=>Nat.le_of_eq (d1 n J);have V:=E 1 10 M (by omega);have O:=E 2 _ V (by omega);have L:=E 3 _ O (by omega);have Z:=E 4 _ L (by omega);have h6:=E 5 _ Z (by omega);exact h6 n (by omega)
def dmF(l:List Am):A3:=l.flatMap λf=>f.bound.mg++[95,66]
def dmP(l:List Param):A3:=l.flatMap λf=>f.type.mg++[95,80]
def G5h(s:A5):A3:=D5b s.name++[95,83]++dmF s.canon.A1++dmP s.canon.params++s.canon.result.mg++[95,69]
abbrev C9d:Nat:=10000000000000
structure H2b(s:A5):Prop where
 sm:s.Sm
 f:∀f,f∈s.canon.A1->f.bound.Mg/\f.bound.Cb<=C9d
 p:∀f,f∈s.canon.params->f.type.Mg/\f.type.Cb<=C9d
 r:s.canon.result.Mg/\s.canon.result.Cb<=C9d
 len:(G5h s).length<=100000000000000
end Go.Abs
