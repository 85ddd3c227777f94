/- underscores doubled: strings.ReplaceAll(s, "_", "__") -/
import Derived.Lib.ReplaceLaws
import Derived.Lib.Join
import Derived.Test.YtaneedhchnaniaaGreatDoorQS95
import Derived.Test.YtaneedhchnaniaaGreatDoorQS49
import Derived.Test.YtaneedhchnaniaaGreatDoorQS14
import Derived.Lib.SmallJoins
import Derived.Shelf.Strconv.Atoi
import Derived.Shelf.Strings.Replace
import Derived.Test.YtaneedhchnaniaaGreatDoorQS90
namespace Go.Abs
set_option linter.unusedSimpArgs false
set_option linter.unusedVariables false
open Go
def escS (s:List UInt8):List UInt8:=s.flatMap fun c=>if c=95 then [95,95] else [c]
set_option maxRecDepth 100000
set_option maxHeartbeats 1000000
abbrev usC:Str:=[95,67]
mutual
def Ty.mg:Ty→Str
 | .mk n a _=>if n.head? = some 36∧a.isEmpty=true then [95,86]++n.drop 1 else escS n++(if a.isEmpty=true then [] else [95,76]++Lib.join (Ty.mgL a) usC++[95,82])
def Ty.mgL:List Ty→List Str
 | []=>[]
 | t::ts=>t.mg::Ty.mgL ts
end
inductive Ty.Mg:Ty→Prop where
 | loc (i:Nat) (p:Int):i≤100000→Ty.Mg (.mk (localS i) [] p)
 | nam (n:Str) (a:List Ty) (p:Int):isName n=true→n.length≤sm→a.length≤sm→(∀ t,t∈a→Ty.Mg t)→Ty.Mg (.mk n a p)
theorem Ty.Mg.at_ {n:Str} {a:List Ty} {p:Int} (h:Ty.Mg (.mk n a p))(q:Int):Ty.Mg (.mk n a q):=by
 cases h with
 | loc i _ hi=>exact .loc i q hi
 | nam _ _ _ h1 h2 h3 h4=>exact .nam n a q h1 h2 h3 h4
theorem Ty.Mg.as_ {u:Ty} (h:u.Mg)(q:Int):(Ty.mk u.name u.args q).Mg:=by
 obtain⟨n,a,p⟩:=u
 exact h.at_ q
theorem getD_mem {l:List Ty} {i:Int} (h0:0≤i)(h:i < l.length):(l[i.toNat]?).getD default∈l:=by
 have h1:i.toNat < l.length:=by omega
 rw [List.getElem?_eq_getElem h1]
 exact List.getElem_mem h1
theorem Ty.Mg.subst {v:List Str} {ar:List Ty} (ha:∀ u,u∈ar→u.Mg):∀ {t:Ty},t.Mg→(t.subst v ar).Mg:=by
 intro t ht
 induction ht with
 | loc i p hi =>
  rw [subst_eq]
  split
  ·rename_i hc
   exact (ha _ (getD_mem hc.2.1 hc.2.2)).as_ _
  ·exact .loc i p hi
 | nam n a p h1 h2 h3 h4 ih =>
  rw [subst_eq]
  split
  ·rename_i hc
   exact (ha _ (getD_mem hc.2.1 hc.2.2)).as_ _
  ·refine .nam _ _ _ h1 h2 (by rw [List.length_map];exact h3) fun t ht=>?_
   obtain⟨u,hu,rfl⟩:=List.mem_map.1 ht
   exact ih u hu
theorem localT_Mg (i:Nat)(h:i≤100000):(localT i).Mg:=.loc i 0 h
open Go Go.Proofs
theorem dec_len (n:Nat)(h:n≤100000):(Lib.decDigits n).length≤6:=by
 have d1:∀ n,n < 10→(Lib.decDigits n).length=1:=fun n h=>by rw [dec_small h];rfl
 have st:∀ n k,¬ n < 10→(Lib.decDigits (n / 10)).length≤k→(Lib.decDigits n).length≤k+1:=fun n k h hk=>by rw [dec_big h,List.length_append];simp only [List.length_cons,List.length_nil];omega
 have up:∀ k B,(∀ n,n < B→(Lib.decDigits n).length≤k)→1≤k→∀ n,n < 10*B→(Lib.decDigits n).length≤k+1:=fun k B hB hk n hn=>by
  by_cases h10:n < 10
  ·rw [d1 n h10];omega
  ·exact st n k h10 (hB _ (by omega))
 have h1:=fun n (hn:n < 10)=>Nat.le_of_eq (d1 n hn)
 have h2:=up 1 10 h1 (by omega)
 have h3:=up 2 _ h2 (by omega)
 have h4:=up 3 _ h3 (by omega)
 have h5:=up 4 _ h4 (by omega)
 have h6:=up 5 _ h5 (by omega)
 exact h6 n (by omega)
set_option maxHeartbeats 2000000
def dmF (l:List Formal):Str:=l.flatMap fun f=>f.bound.mg++[95,66]
def dmP (l:List Param):Str:=l.flatMap fun f=>f.type.mg++[95,80]
def dumS (s:Sig):Str:=escS s.name++[95,83]++dmF s.canon.formals++dmP s.canon.params++s.canon.result.mg++[95,69]
abbrev tLim:Nat:=10000000000000
structure DumOK (s:Sig):Prop where
 sm:s.Sm
 f:∀ f,f∈s.canon.formals→f.bound.Mg∧f.bound.tlen≤tLim
 p:∀ f,f∈s.canon.params→f.type.Mg∧f.type.tlen≤tLim
 r:s.canon.result.Mg∧s.canon.result.tlen≤tLim
 len:(dumS s).length≤100000000000000
end Go.Abs
