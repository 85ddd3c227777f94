/- castingsref18: edges between type parameters, plain functions and how many there can be -/
import Derived.Test.YtbhbfpjnenekpaaGreatDoorJS93
import Derived.Test.YtbhbfpjnenekpaaGreatDoorJU01
import Derived.Test.YtbhbfpjnenekpaaGreatDoorJS14
import Derived.Test.YtbhbfpjnenekpaaGreatDoorJSB
import Derived.Test.YtbhbfpjnenekpaaGreatDoorJS95
import Derived.Laws.StructEq
namespace Go.Abs
set_option linter.unusedSimpArgs false
set_option linter.unusedVariables false
open Go
set_option maxRecDepth 100000
set_option maxHeartbeats 1000000
structure NodeT where
 meth:Bool
 name:Str
 idx:Int
 deriving DecidableEq
structure EdgeT where
 src:NodeT
 dst:NodeT
 ins:Bool
 deriving DecidableEq
structure VarT where
 name:Str
 node:NodeT
def noC (n:NodeT):List D:=[.bool n.meth,.str n.name,.int .i64 n.idx]
def edC (e:EdgeT):List D:=[.bool e.src.meth,.str e.src.name,.int .i64 e.src.idx,.bool e.dst.meth,.str e.dst.name,.int .i64 e.dst.idx,.bool e.ins]
def vaC (v:VarT):List D:=[.str v.name,.bool v.node.meth,.str v.node.name,.int .i64 v.node.idx]
def noR (l:List NodeT):List (List D):=l.map noC
def edR (l:List EdgeT):List (List D):=l.map edC
def vrR (l:List VarT):List (List D):=l.map vaC
def cmpN (a b:NodeT):Int:=if a.meth≠b.meth then (if b.meth=true then -1 else 1) else if a.name≠b.name then cmpS a.name b.name else if a.idx < b.idx then -1 else if a.idx > b.idx then 1 else 0
def lessE (a b:EdgeT):Bool:=let c:=if cmpN a.src b.src=0 then cmpN a.dst b.dst else cmpN a.src b.src
 decide (c < 0) || (decide (c=0) && (!a.ins && b.ins))
def goE (e:EdgeT):List EdgeT→Nat→List EdgeT→Option (List EdgeT)
 | [],_,out=>some out
 | x::r,i,out=>if x=e then none else goE e r (i+1) ((if out.length=i∧lessE e x=true then out++[e] else out)++[x])
def putE (l:List EdgeT)(e:EdgeT):List EdgeT:=match goE e l 0 [] with
 | none=>l
 | some out=>if out.length=l.length then out++[e] else out
theorem goE_len {e:EdgeT} :∀ {l:List EdgeT} {i:Nat} {out R:List EdgeT},i≤out.length→out.length≤i+1→goE e l i out=some R→i+l.length≤R.length∧R.length≤i+l.length+1
 | [],i,out,R,h1,h2,h=>by
  simp only [goE,Option.some.injEq] at h
  subst h
  simp;omega
 | x::l,i,out,R,h1,h2,h=>by
  rw [goE] at h
  split at h
  ·cases h
  ·have h3:=goE_len (i:=i+1) (by
    rw [List.length_append];simp only [List.length_cons,List.length_nil]
    split
    ·rw [List.length_append];simp only [List.length_cons,List.length_nil];omega
    ·omega) (by
    rw [List.length_append];simp only [List.length_cons,List.length_nil]
    split
    ·rename_i hc;rw [List.length_append];simp only [List.length_cons,List.length_nil];omega
    ·omega) h
   simp only [List.length_cons]
   omega
def finE (l:List EdgeT)(e:EdgeT):Option (List EdgeT)→List EdgeT
 | none=>l
 | some out=>if out.length=l.length then out++[e] else out
theorem putE_eq (l:List EdgeT)(e:EdgeT):putE l e=finE l e (goE e l 0 []):=by
 unfold putE finE;cases goE e l 0 [] <;> rfl
theorem putE_len (l:List EdgeT)(e:EdgeT):(putE l e).length≤l.length+1:=by
 unfold putE
 cases h:goE e l 0 [] with
 | none=>simp
 | some R =>
  have:=goE_len (i:=0) (by simp) (by simp) h
  simp only
  split
  ·rw [List.length_append];simp only [List.length_cons,List.length_nil];omega
  ·omega
def varsE (s:List VarT)(m:Bool)(own:Str)(l:List Str):List VarT:=s++(List.range l.length).map fun i=>⟨(l[i]?).getD [],m,own,i⟩
def findE (s:List VarT)(n:Str):Option VarT:=s.find? fun v=>decide (v.name=n)
mutual
def inE (s:List VarT)(to:NodeT):Bool→List EdgeT→Ty→List EdgeT
 | b,l,.mk n a _=>match (if a.isEmpty=true then findE s n else none) with
  | some v=>putE l ⟨v.node,to,b⟩
  | none=>inEs s to l a
def inEs (s:List VarT)(to:NodeT):List EdgeT→List Ty→List EdgeT
 | l,[]=>l
 | l,t::ts=>inEs s to (inE s to true l t) ts
end
mutual
theorem inE_len (s:List VarT)(to:NodeT):∀ (t:Ty)(b:Bool)(l:List EdgeT),(inE s to b l t).length≤l.length+t.tlen
 | .mk n a p,b,l=>by
  rw [inE,Ty.tlen]
  have h:=inEs_len s to a l
  split
  ·rename_i v hv
   have:=putE_len l ⟨v.node,to,b⟩
   omega
  ·omega
theorem inEs_len (s:List VarT)(to:NodeT):∀ (a:List Ty)(l:List EdgeT),(inEs s to l a).length≤l.length+Ty.tlenL a
 | [],l=>by simp [inEs]
 | t::ts,l=>by
  have h1:=inE_len s to t true l
  have h2:=inEs_len s to ts (inE s to true l t)
  rw [inEs,Ty.tlenL]
  omega
end
mutual
def argsT (s:List VarT)(m:Bool)(own:Str)(i:Nat):List EdgeT→Ty→List EdgeT
 | l,.mk n a p=>argsE s false n 0 (inE s ⟨m,own,i⟩ false l (.mk n a p)) a
def argsE (s:List VarT)(m:Bool)(own:Str):Nat→List EdgeT→List Ty→List EdgeT
 | _,l,[]=>l
 | i,l,t::ts=>argsE s m own (i+1) (argsT s m own i l t) ts
end
theorem sq_add (x y:Nat):x*x+y*y≤(x+y)*(x+y):=by
 rw [Nat.add_mul,Nat.mul_add,Nat.mul_add];omega
mutual
theorem argsT_len (s:List VarT):∀ (t:Ty)(m:Bool)(own:Str)(i:Nat)(l:List EdgeT),(argsT s m own i l t).length≤l.length+t.tlen*t.tlen
 | .mk n a p,m,own,i,l=>by
  have h1:=inE_len s ⟨m,own,i⟩ (.mk n a p) false l
  have h2:=argsE_len s a false n 0 (inE s ⟨m,own,i⟩ false l (.mk n a p))
  rw [argsT]
  have h4:(Ty.mk n a p).tlen=n.length+4+Ty.tlenL a:=rfl
  generalize Ty.tlenL a=y at *
  generalize (Ty.mk n a p).tlen=x at *
  have h5:x+y*y≤x*x:=by
   have h6:x*(y+4)≤x*x:=Nat.mul_le_mul_left _ (by omega)
   have h7:x*(y+4)=x*y+x*4:=Nat.mul_add _ _ _
   have h8:y*y≤x*y:=Nat.mul_le_mul_right _ (by omega)
   omega
  omega
theorem argsE_len (s:List VarT):∀ (a:List Ty)(m:Bool)(own:Str)(i:Nat)(l:List EdgeT),(argsE s m own i l a).length≤l.length+Ty.tlenL a*Ty.tlenL a
 | [],m,own,i,l=>by simp [argsE]
 | t::ts,m,own,i,l=>by
  have h1:=argsT_len s t m own i l
  have h2:=argsE_len s ts m own (i+1) (argsT s m own i l t)
  have h3:=sq_add t.tlen (Ty.tlenL ts)
  rw [argsE,Ty.tlenL]
  omega
end
def sigE (s:List VarT)(l:List EdgeT)(x:Sig):List EdgeT :=
 argsE s false x.result.name 0 (x.params.foldl (fun l p=>argsE s false p.type.name 0 l p.type.args) (x.formals.foldl (fun l f=>argsE s false f.bound.name 0 l f.bound.args) l)) x.result.args
def declE (l:List EdgeT)(d:Decl):List EdgeT :=
 if d.kind=3 then
  let s:=varsE (varsE [] false d.name d.vars) true d.sig.name (fnames d.sig.formals)
  (listE d.body).foldl (fun l e=>argsE s true e.name 0 (argsE s false e.type.name 0 l e.type.args) e.targs) (sigE s l d.sig)
 else
  let s:=varsE [] false d.name (fnames d.formals)
  d.sigs.foldl (fun l x=>sigE (varsE s true x.name (fnames x.formals)) l x) (sigE s l ⟨[],d.formals,d.fields,.mk [] [] 0,0⟩)
def edgesP (p:Prog):List EdgeT:=p.decls.foldl declE []
def reach1 (n:NodeT)(out:List NodeT)(e:EdgeT):List NodeT:=if (e.src=n∨e.src∈out)∧e.dst ∉ out then out++[e.dst] else out
def reachG (l:List EdgeT)(n:NodeT):Nat→Int→List NodeT→List NodeT
 | 0,_,out=>out
 | k+1,c,out=>if c=out.length then out else reachG l n k out.length (l.foldl (reach1 n) out)
def reachE (l:List EdgeT)(n:NodeT):List NodeT:=reachG l n (l.length+3) (-1) []
def leadsE (l:List EdgeT)(a b:NodeT):Bool:=decide (b∈reachE l a)
def expE (l:List EdgeT):List EdgeT:=l.filter fun e=>e.ins && (decide (e.dst=e.src) || leadsE l e.dst e.src)
def isMono (p:Prog):Bool:=decide ((expE (edgesP p)).length=0)
theorem fold_len {α:Type} {f:List EdgeT→α→List EdgeT} {g:α→Nat} (h:∀ l a,(f l a).length≤l.length+g a*g a):∀ (as_:List α)(l:List EdgeT),(as_.foldl f l).length≤l.length+(as_.map g).sum*(as_.map g).sum
 | [],l=>by simp
 | a::r,l=>by
  have h1:=h l a
  have h2:=fold_len h r (f l a)
  have h3:=sq_add (g a) (r.map g).sum
  rw [List.foldl_cons,List.map_cons,List.sum_cons]
  omega
theorem add_sq (a b c x y:Nat)(h1:b≤a+x*x)(h2:c≤b+y*y):c≤a+(x+y)*(x+y):=by
 have:=sq_add x y;omega
theorem room_step {z z':Nat} {x y:Nat} (h:z+(x+y)*(x+y)≤1000000000000)(h1:z'≤z+x*x):z'+y*y≤1000000000000:=by
 have:=sq_add x y;omega
open Go Go.Proofs
abbrev noS (n:NodeT):List SV:=[.d (.bool n.meth),.d (.str n.name),.d (.int .i64 n.idx)]
abbrev noV (n:NodeT):SV:=.agg (noS n)
abbrev q1dx:List Nat:=[0,1,2,3,4,9,11,16,26,31]
theorem ok_cmpN (a b:NodeT):CallOK Tryz.prog 335 [noV a,noV b] (intV (cmpN a b)):=by
 have hc:=ok_Compare a.name b.name
 obtain⟨m1,n1,i1⟩:=a
 obtain⟨m2,n2,i2⟩:=b
 unfold cmpN
 simp only at hc ⊢
 generalize cmpS n1 n2=z at *
 have main:∀ m:Bool,CallOK Tryz.prog 335 [noV ⟨m,n1,i1⟩,noV ⟨m,n2,i2⟩] (intV (if n1≠n2 then z else if i1 < i2 then -1 else if i1 > i2 then 1 else 0)):=by
  intro m
  have hm:(m == m)=true:=by simp
  by_cases h1:n1=n2
  ·rw [if_neg (fun h=>h h1)]
   by_cases h2:i1 < i2
   ·rw [if_pos h2]
    refine cB Tryz.func335 ?_
    refine sR q1dx ?_
    refine sK fun K1 u1=>?_
    (refine sQ q1dx fun K z=>?_;simp -implicitDefEqProofs only [EV,forall_const,implies_true,Nat.reduceAdd,Nat.reduceEqDiff,Nat.reduceBEq,Nat.reduceLeDiff,Nat.reduceSub,Nat.reduceMul,Int.reduceEq,Int.reduceLT,Int.reduceLE,Int.reduceSub,Int.reduceAdd,Int.reduceToNat,reduceCtorEq,Int.reduceNeg,TF3,TF4,TF9,TF196,hm,Bool.not_true];apply z;clear z K)
    refine kI u1 ?_
    clear u1 K1
    refine sK fun K1 u1=>?_
    (refine sQ q1dx fun K z=>?_;simp -implicitDefEqProofs only [EV,forall_const,implies_true,Nat.reduceAdd,Nat.reduceEqDiff,Nat.reduceBEq,Nat.reduceLeDiff,Nat.reduceSub,Nat.reduceMul,Int.reduceEq,Int.reduceLT,Int.reduceLE,Int.reduceSub,Int.reduceAdd,Int.reduceToNat,reduceCtorEq,Int.reduceNeg,TF3,TF4,TF9,TF196,h1,ne_eq,not_true_eq_false,decide_false];apply z;clear z K)
    refine kI u1 ?_
    clear u1 K1
    refine kR1 h2 q1dx fun K1 u1=>?_
    refine tI ?_
    refine sR q1dx ?_
    exact aR
   rw [if_neg h2]
   by_cases h3:i1 > i2
   ·rw [if_pos h3]
    refine cB Tryz.func335 ?_
    refine sR q1dx ?_
    refine sK fun K1 u1=>?_
    (refine sQ q1dx fun K z=>?_;simp -implicitDefEqProofs only [EV,forall_const,implies_true,Nat.reduceAdd,Nat.reduceEqDiff,Nat.reduceBEq,Nat.reduceLeDiff,Nat.reduceSub,Nat.reduceMul,Int.reduceEq,Int.reduceLT,Int.reduceLE,Int.reduceSub,Int.reduceAdd,Int.reduceToNat,reduceCtorEq,Int.reduceNeg,TF3,TF4,TF9,TF196,hm,Bool.not_true];apply z;clear z K)
    refine kI u1 ?_
    clear u1 K1
    refine sK fun K1 u1=>?_
    (refine sQ q1dx fun K z=>?_;simp -implicitDefEqProofs only [EV,forall_const,implies_true,Nat.reduceAdd,Nat.reduceEqDiff,Nat.reduceBEq,Nat.reduceLeDiff,Nat.reduceSub,Nat.reduceMul,Int.reduceEq,Int.reduceLT,Int.reduceLE,Int.reduceSub,Int.reduceAdd,Int.reduceToNat,reduceCtorEq,Int.reduceNeg,TF3,TF4,TF9,TF196,h1,ne_eq,not_true_eq_false,decide_false];apply z;clear z K)
    refine kI u1 ?_
    clear u1 K1
    refine kR1 h2 q1dx fun K1 u1=>?_
    refine kI u1 ?_
    clear u1 K1
    refine kR1 h3 q1dx fun K1 u1=>?_
    refine tI ?_
    refine sR q1dx ?_
    exact aR
   ·rw [if_neg h3]
    refine cB Tryz.func335 ?_
    refine sR q1dx ?_
    refine sK fun K1 u1=>?_
    (refine sQ q1dx fun K z=>?_;simp -implicitDefEqProofs only [EV,forall_const,implies_true,Nat.reduceAdd,Nat.reduceEqDiff,Nat.reduceBEq,Nat.reduceLeDiff,Nat.reduceSub,Nat.reduceMul,Int.reduceEq,Int.reduceLT,Int.reduceLE,Int.reduceSub,Int.reduceAdd,Int.reduceToNat,reduceCtorEq,Int.reduceNeg,TF3,TF4,TF9,TF196,hm,Bool.not_true];apply z;clear z K)
    refine kI u1 ?_
    clear u1 K1
    refine sK fun K1 u1=>?_
    (refine sQ q1dx fun K z=>?_;simp -implicitDefEqProofs only [EV,forall_const,implies_true,Nat.reduceAdd,Nat.reduceEqDiff,Nat.reduceBEq,Nat.reduceLeDiff,Nat.reduceSub,Nat.reduceMul,Int.reduceEq,Int.reduceLT,Int.reduceLE,Int.reduceSub,Int.reduceAdd,Int.reduceToNat,reduceCtorEq,Int.reduceNeg,TF3,TF4,TF9,TF196,h1,ne_eq,not_true_eq_false,decide_false];apply z;clear z K)
    refine kI u1 ?_
    clear u1 K1
    refine kR1 h2 q1dx fun K1 u1=>?_
    refine kI u1 ?_
    clear u1 K1
    refine kR1 h3 q1dx fun K1 u1=>?_
    refine kI u1 ?_
    clear u1 K1
    refine sR q1dx ?_
    exact aR
  ·rw [if_pos h1]
   refine cB Tryz.func335 ?_
   refine sR q1dx ?_
   refine sK fun K1 u1=>?_
   (refine sQ q1dx fun K z=>?_;simp -implicitDefEqProofs only [EV,forall_const,implies_true,Nat.reduceAdd,Nat.reduceEqDiff,Nat.reduceBEq,Nat.reduceLeDiff,Nat.reduceSub,Nat.reduceMul,Int.reduceEq,Int.reduceLT,Int.reduceLE,Int.reduceSub,Int.reduceAdd,Int.reduceToNat,reduceCtorEq,Int.reduceNeg,TF3,TF4,TF9,TF196,hm,Bool.not_true];apply z;clear z K)
   refine kI u1 ?_
   clear u1 K1
   refine sK fun K1 u1=>?_
   (refine sQ q1dx fun K z=>?_;simp -implicitDefEqProofs only [EV,forall_const,implies_true,Nat.reduceAdd,Nat.reduceEqDiff,Nat.reduceBEq,Nat.reduceLeDiff,Nat.reduceSub,Nat.reduceMul,Int.reduceEq,Int.reduceLT,Int.reduceLE,Int.reduceSub,Int.reduceAdd,Int.reduceToNat,reduceCtorEq,Int.reduceNeg,TF3,TF4,TF9,TF196,h1,ne_eq,not_false_eq_true,decide_true];apply z;clear z K)
   refine tI ?_
   refine sC hc q1dx ?_
   exact aR
 cases m1 <;> cases m2
 ·exact main false
 ·rw [if_pos (by decide),if_pos rfl]
  refine cB Tryz.func335 ?_
  refine sR q1dx ?_
  refine kR q1dx fun K1 u1=>?_
  refine tI ?_
  refine kR q1dx fun K2 u2=>?_
  refine tI ?_
  refine sR q1dx ?_
  exact aR
 ·rw [if_pos (by decide),if_neg (by decide)]
  refine cB Tryz.func335 ?_
  refine sR q1dx ?_
  refine kR q1dx fun K1 u1=>?_
  refine tI ?_
  refine kR q1dx fun K2 u2=>?_
  refine kI u2 ?_
  clear u2 K2
  refine sR q1dx ?_
  exact aR
 ·exact main true
open Go
def foAl (l:List Formal):Nat:=(l.map fun f=>Ty.tlenL f.bound.args).sum
def paAl (l:List Param):Nat:=(l.map fun f=>Ty.tlenL f.type.args).sum
def Sig.al (s:Sig):Nat:=foAl s.formals+paAl s.params+Ty.tlenL s.result.args
def exAl (e:Ex):Nat:=Ty.tlenL e.type.args+Ty.tlenL e.targs
def exsAl (l:List Ex):Nat:=(l.map exAl).sum
def siAl (l:List Sig):Nat:=(l.map Sig.al).sum
def Decl.al (d:Decl):Nat:=if d.kind=3 then d.sig.al+exsAl (listE d.body) else foAl d.formals+paAl d.fields+siAl d.sigs
def deAl (l:List Decl):Nat:=(l.map Decl.al).sum
def headE (d:Decl):Sig:=⟨[],d.formals,d.fields,.mk [] [] 0,0⟩
theorem headE_al (d:Decl):(headE d).al=foAl d.formals+paAl d.fields:=by simp [Sig.al,headE,Ty.args,Ty.tlenL]
theorem sigE_len (s:List VarT)(l:List EdgeT)(x:Sig):(sigE s l x).length≤l.length+x.al*x.al:=by
 have h1:=fold_len (f:=fun l (f:Formal)=>argsE s false f.bound.name 0 l f.bound.args) (g:=fun f=>Ty.tlenL f.bound.args) (fun l f=>argsE_len s f.bound.args false f.bound.name 0 l) x.formals l
 have h2:=fold_len (f:=fun l (f:Param)=>argsE s false f.type.name 0 l f.type.args) (g:=fun f=>Ty.tlenL f.type.args) (fun l f=>argsE_len s f.type.args false f.type.name 0 l) x.params (x.formals.foldl (fun l f=>argsE s false f.bound.name 0 l f.bound.args) l)
 have h3:=argsE_len s x.result.args false x.result.name 0 (x.params.foldl (fun l p=>argsE s false p.type.name 0 l p.type.args) (x.formals.foldl (fun l f=>argsE s false f.bound.name 0 l f.bound.args) l))
 exact add_sq _ _ _ _ _ (add_sq _ _ _ _ _ h1 h2) h3
def exE (s:List VarT)(l:List EdgeT)(e:Ex):List EdgeT:=argsE s true e.name 0 (argsE s false e.type.name 0 l e.type.args) e.targs
theorem exE_len (s:List VarT)(l:List EdgeT)(e:Ex):(exE s l e).length≤l.length+exAl e*exAl e :=
 add_sq _ _ _ _ _ (argsE_len s e.type.args false e.type.name 0 l) (argsE_len s e.targs true e.name 0 _)
def sgE (s:List VarT)(l:List EdgeT)(x:Sig):List EdgeT:=sigE (varsE s true x.name (fnames x.formals)) l x
theorem declE_eq (l:List EdgeT)(d:Decl):declE l d=if d.kind=3 then
   (listE d.body).foldl (exE (varsE (varsE [] false d.name d.vars) true d.sig.name (fnames d.sig.formals))) (sigE (varsE (varsE [] false d.name d.vars) true d.sig.name (fnames d.sig.formals)) l d.sig)
  else d.sigs.foldl (sgE (varsE [] false d.name (fnames d.formals))) (sigE (varsE [] false d.name (fnames d.formals)) l (headE d)):=rfl
theorem declE_len (l:List EdgeT)(d:Decl):(declE l d).length≤l.length+d.al*d.al:=by
 rw [declE_eq]
 unfold Decl.al
 split
 ·exact add_sq _ _ _ _ _ (sigE_len _ l d.sig) (fold_len (g:=exAl) (fun l e=>exE_len _ l e) (listE d.body) _)
 ·have h1:=sigE_len (varsE [] false d.name (fnames d.formals)) l (headE d)
  rw [headE_al] at h1
  exact add_sq _ _ _ _ _ h1 (fold_len (g:=Sig.al) (fun l e=>sigE_len _ l e) d.sigs _)
theorem list_al {α:Type} (F:List α→Int→Int)(g:α→Int→Int)(h:α→Nat)(h0:∀ k,F [] k=k)(h1:∀ x xs k,F (x::xs) k=if k≤2000 then F xs (g x k) else k)(hm:∀ l k,k≤F l k)
  (hal:∀ x k,g x k≤2000→(h x:Int)≤120*(g x k - k)):∀ (l:List α) (k:Int),F l k≤2000→((l.map h).sum:Int)≤120*(F l k - k)
 | [],k,_=>by rw [h0];simp
 | x::xs,k,hk=>by
  rw [h1] at hk ⊢
  split at hk
  ·rename_i hc
   rw [if_pos hc]
   have a1:=hm xs (g x k)
   have a2:=hal x k (by omega)
   have a3:=list_al F g h h0 h1 hm hal xs (g x k) hk
   simp only [List.map_cons,List.sum_cons]
   omega
  ·rename_i hc
   omega
theorem tlenL_args (t:Ty):Ty.tlenL t.args≤t.tlen:=by rw [Ty.tlen_eq];omega
theorem fo_al:∀ (l:List Formal)(k:Int),foCount l k≤2000→(foAl l:Int)≤120*(foCount l k - k) :=
 list_al foCount (fun f n=>f.bound.count (n+1+((f.name.length / 50:Nat):Int))) (fun f=>Ty.tlenL f.bound.args) (fun _=>rfl) (fun _ _ _=>rfl) (fun l k=>(fo_sm l k).1) fun x k h=>by
  have h1:=Ty.count_tlen x.bound _ h
  have h2:=tlenL_args x.bound
  omega
theorem pa_al:∀ (l:List Param)(k:Int),paCount l k≤2000→(paAl l:Int)≤120*(paCount l k - k) :=
 list_al paCount (fun f n=>f.type.count (n+1+((f.name.length / 50:Nat):Int))) (fun f=>Ty.tlenL f.type.args) (fun _=>rfl) (fun _ _ _=>rfl) (fun l k=>(pa_sm l k).1) fun x k h=>by
  have h1:=Ty.count_tlen x.type _ h
  have h2:=tlenL_args x.type
  omega
theorem Sig.count_al (s:Sig)(n:Int)(h:s.count n≤2000):(s.al:Int)≤120*(s.count n - n):=by
 unfold Sig.count at h ⊢
 have a1:=(fo_sm s.formals (n+((s.name.length / 50:Nat):Int))).1
 have b1:=(pa_sm s.params (foCount s.formals (n+((s.name.length / 50:Nat):Int)))).1
 have c1:=Ty.count_ge s.result (paCount s.params (foCount s.formals (n+((s.name.length / 50:Nat):Int))))
 have a2:=fo_al s.formals (n+((s.name.length / 50:Nat):Int)) (by omega)
 have b2:=pa_al s.params _ (show paCount s.params (foCount s.formals (n+((s.name.length / 50:Nat):Int)))≤2000 by omega)
 have c2:=Ty.count_tlen s.result _ h
 have c3:=tlenL_args s.result
 unfold Sig.al
 omega
theorem si_al:∀ (l:List Sig)(k:Int),siCount l k≤2000→(siAl l:Int)≤120*(siCount l k - k) :=
 list_al siCount Sig.count Sig.al (fun _=>rfl) (fun _ _ _=>rfl) (fun l k=>(si_sm l k).1) fun x k h=>Sig.count_al x k h
mutual
theorem exsAl_xlen:∀ e:Ex,exsAl (listE e)≤e.xlen
 | .mk k n t a ks p=>by
  have h1:=exsAlL_xlen ks
  have h2:=tlenL_args t
  rw [listE,Ex.xlen_eq]
  simp only [exsAl,List.map_cons,List.sum_cons,exAl,Ex.type,Ex.targs,Ex.kids,Ex.name] at h1 ⊢
  omega
theorem exsAlL_xlen:∀ l:List Ex,exsAl (listEL l)≤Ex.xlenL l
 | []=>by simp [exsAl,listEL,Ex.xlenL]
 | e::l=>by
  have h1:=exsAl_xlen e
  have h2:=exsAlL_xlen l
  rw [listEL,Ex.xlenL]
  simp only [exsAl,List.map_append,List.sum_append] at h1 h2 ⊢
  omega
end
theorem Decl.count_al (d:Decl)(n:Int)(h:d.count n≤2000):(d.al:Int)≤120*(d.count n - n):=by
 unfold Decl.count at h ⊢
 generalize hm:n+1+((d.name.length / 50:Nat):Int)+((d.recv.length / 50:Nat):Int)=m at h ⊢
 have a1:=(fo_sm d.formals m).1
 have b1:=(pa_sm d.fields (foCount d.formals m)).1
 have c1:=(si_sm d.sigs (paCount d.fields (foCount d.formals m))).1
 have e1:=(va_sm d.vars (siCount d.sigs (paCount d.fields (foCount d.formals m)))).1
 have a2:=fo_al d.formals m
 have b2:=pa_al d.fields (foCount d.formals m)
 have c2:=si_al d.sigs (paCount d.fields (foCount d.formals m))
 generalize hz:vaCount d.vars (siCount d.sigs (paCount d.fields (foCount d.formals m)))=z at *
 unfold Decl.count2 at h ⊢
 have f1:=(Sig.count_sm d.sig z).1
 have f2:=Sig.count_al d.sig z
 have g1:=Ex.count_ge d.body (d.sig.count z)
 have g2:=Ex.count_xlen d.body (d.sig.count z)
 have g3:=exsAl_xlen d.body
 split at h
 ·rename_i hc
  rw [if_pos hc]
  have a2:=a2 (by omega)
  have b2:=b2 (by omega)
  have c2:=c2 (by omega)
  have f2:=f2 (by omega)
  have g2:=g2 (by omega)
  unfold Decl.al
  split <;> omega
 ·omega
theorem Prog.count_al (p:Prog)(h:p.count≤600):deAl p.decls≤72000:=by
 unfold Prog.count at h
 have h1:=Ex.count_ge p.main 0
 have a1:=(de_sm p.decls (p.main.count 0)).1
 have:=list_al deCount Decl.count Decl.al (fun _=>rfl) (fun _ _ _=>rfl) (fun l k=>(de_sm l k).1) (fun x k h=>Decl.count_al x k h) p.decls (p.main.count 0) (by omega)
 unfold deAl
 omega
open Go Go.Proofs
set_option maxHeartbeats 4000000
abbrev edS (e:EdgeT):List SV:=[.d (.bool e.src.meth),.d (.str e.src.name),.d (.int .i64 e.src.idx),.d (.bool e.dst.meth),.d (.str e.dst.name),.d (.int .i64 e.dst.idx),.d (.bool e.ins)]
abbrev edV (e:EdgeT):SV:=.agg (edS e)
abbrev edsV (l:List EdgeT):SV:=.d (.slice (edR l))
abbrev vrV (l:List VarT):SV:=.d (.slice (vrR l))
theorem edR_get {l:List EdgeT} {i:Nat} {c:EdgeT} (h:l[i]? = some c):(edR l)[i]? = some (edC c):=map_get h
theorem noR_get {l:List NodeT} {i:Nat} {c:NodeT} (h:l[i]? = some c):(noR l)[i]? = some (noC c):=map_get h
theorem vrR_get {l:List VarT} {i:Nat} {c:VarT} (h:l[i]? = some c):(vrR l)[i]? = some (vaC c):=map_get h
theorem edR_len (l:List EdgeT):(edR l).length=l.length:=by simp [edR]
theorem noR_len (l:List NodeT):(noR l).length=l.length:=by simp [noR]
theorem vrR_len (l:List VarT):(vrR l).length=l.length:=by simp [vrR]
variable {S:Nat→Prop} {w:World} {β:Names}
theorem rep_flat {xs:List SV} {v:Value} (h:RepV S w β (.agg xs) v):∃ vs:List Value,v=.agg ⟨vs⟩∧vs.length=xs.length∧∀ (j:Nat)(c:SV)(u:Value),xs[j]? = some c→vs[j]? = some u→RepV S w β c u:=by
 cases h with | agg _ vs h1 _ h3=>exact⟨vs,rfl,h1,h3⟩
theorem rep_no {a:NodeT} {v:Value} (h:RepV S w β (noV a) v):v=.agg #[.bool a.meth,.string (mkStr a.name),.int .i64 a.idx]:=by
 obtain⟨vs,rfl,hl,hr⟩:=rep_flat h
 match vs,hl with
 | [v0,v1,v2],_ =>
  have h0:=(hr 0 _ v0 rfl rfl).inv_bool
  have h1:=(hr 1 _ v1 rfl rfl).inv_str.1
  have h2:=(hr 2 _ v2 rfl rfl).inv_int
  subst h0 h1 h2;rfl
theorem rep_ed {a:EdgeT} {v:Value} (h:RepV S w β (edV a) v) :
  v=.agg #[.bool a.src.meth,.string (mkStr a.src.name),.int .i64 a.src.idx,.bool a.dst.meth,.string (mkStr a.dst.name),.int .i64 a.dst.idx,.bool a.ins]:=by
 obtain⟨vs,rfl,hl,hr⟩:=rep_flat h
 match vs,hl with
 | [v0,v1,v2,v3,v4,v5,v6],_ =>
  have h0:=(hr 0 _ v0 rfl rfl).inv_bool
  have h1:=(hr 1 _ v1 rfl rfl).inv_str.1
  have h2:=(hr 2 _ v2 rfl rfl).inv_int
  have h3:=(hr 3 _ v3 rfl rfl).inv_bool
  have h4:=(hr 4 _ v4 rfl rfl).inv_str.1
  have h5:=(hr 5 _ v5 rfl rfl).inv_int
  have h6:=(hr 6 _ v6 rfl rfl).inv_bool
  subst h0 h1 h2 h3 h4 h5 h6;rfl
theorem run_eqNo (d:Nat)(a b:NodeT)(w:World):(Op.equalIn (d+2) 196 (.agg #[.bool a.meth,.string (mkStr a.name),.int .i64 a.idx]) (.agg #[.bool b.meth,.string (mkStr b.name),.int .i64 b.idx])).run Tryz.prog w=.ok (decide (a=b)) w:=by
 have hS:Tryz.prog.underlying 196=some (.struct (Tryz.prog.fieldsOf 196)):=by kernel_rfl
 have hp:Tryz.prog.stoodInHeld 196=false:=by kernel_rfl
 rw [run_equalIn_agg w (d+1) 196 _ _ hS hp]
 simp only [Program.fieldsOf,Tryz.underlying196]
 go_simp
 have he:(a=b)↔a.meth=b.meth∧a.name=b.name∧a.idx=b.idx:=by
  obtain⟨a1,a2,a3⟩:=a
  obtain⟨b1,b2,b3⟩:=b
  simp
 simp only [mkStr_toList]
 by_cases h1:a.meth=b.meth <;> by_cases h2:a.name=b.name <;> by_cases h3:a.idx=b.idx <;> simp [h1,h2,h3,he]
theorem opQ_eqN {sl:SL} {bx:Boxes} {x y:Operand} {u:TypeId} (a b:NodeT)(hx:opnd sl x=noV a)(hy:opnd sl y=noV b):OpQ Tryz.prog sl bx (.binOp .eql 196 x y u) (boolV (decide (a=b))):=by
 intro o ho
 refine .of_value fun _ S w β ac _ ha=>?_
 have h1:=ha x (mC ho);rw [hx] at h1
 have h2:=ha y (mC ho);rw [hy] at h2
 have h1:=rep_no h1
 have h2:=rep_no h2
 refine⟨.bool (decide (a=b)),?_,.bool _⟩
 simp only [execOp,ho,Sem.run_bind,Sem.run_map,h1,h2,run_eqGuard_agg w .eql 196 x y _ _ Tryz.eqGuardType196,Result.andThen_ok,run_eql_struct]
 rw [show (10000:Nat)=9998+2 from rfl,run_eqNo]
 rfl
theorem opQ_eqE {sl:SL} {bx:Boxes} {x y:Operand} {u:TypeId} (a b:EdgeT)(hx:opnd sl x=edV a)(hy:opnd sl y=edV b):OpQ Tryz.prog sl bx (.binOp .eql 198 x y u) (boolV (decide (a=b))):=by
 intro o ho
 refine .of_value fun _ S w β ac _ ha=>?_
 have h1:=ha x (mC ho);rw [hx] at h1
 have h2:=ha y (mC ho);rw [hy] at h2
 have h1:=rep_ed h1
 have h2:=rep_ed h2
 refine⟨.bool (decide (a=b)),?_,.bool _⟩
 have hS:Tryz.prog.underlying 198=some (.struct (Tryz.prog.fieldsOf 198)):=by kernel_rfl
 have hp:Tryz.prog.stoodInHeld 198=false:=by kernel_rfl
 have e1:=run_eqNo 9997 a.src b.src
 have e2:=run_eqNo 9997 a.dst b.dst
 simp only [execOp,ho,Sem.run_bind,Sem.run_map,h1,h2,run_eqGuard_agg w .eql 198 x y _ _ Tryz.eqGuardType198,Result.andThen_ok,run_eql_struct]
 rw [show (10000:Nat)=9999+1 from rfl,run_equalIn_agg w 9999 198 _ _ hS hp]
 simp only [Program.fieldsOf,Tryz.underlying198]
 rw [show (9999:Nat)=9997+2 from rfl]
 have he:(a=b)↔a.src=b.src∧a.dst=b.dst∧a.ins=b.ins:=by
  obtain⟨a1,a2,a3⟩:=a
  obtain⟨b1,b2,b3⟩:=b
  simp
 simp only [Op.eqFields]
 go_simp
 by_cases h1:a.src=b.src <;> by_cases h2:a.dst=b.dst <;> by_cases h3:a.ins=b.ins <;> simp [h1,h2,h3,he,e1,e2]
abbrev q1ex:List Nat:=[0,1,2,3,4,5,12]
theorem ok_lessE (a b:EdgeT):CallOK Tryz.prog 318 [edV a,edV b] (boolV (lessE a b)):=by
 have h1:=ok_cmpN a.src b.src
 have h2:=ok_cmpN a.dst b.dst
 unfold lessE
 obtain⟨⟨m1,n1,i1⟩,⟨m2,n2,i2⟩,q1⟩:=a
 obtain⟨⟨m3,n3,i3⟩,⟨m4,n4,i4⟩,q2⟩:=b
 simp only at h1 h2 ⊢
 generalize cmpN ⟨m1,n1,i1⟩ ⟨m3,n3,i3⟩=x at *
 generalize cmpN ⟨m2,n2,i2⟩ ⟨m4,n4,i4⟩=y at *
 refine cB Tryz.func318 ?_
 refine sR q1ex ?_
 refine sC h1 q1ex ?_
 refine sK fun K1 u1=>?_
 have tail:∀ c:Int,(if x=0 then y else x)=c→∀ sl bx,sle sl [(2,.box 2 0),(3,.box 3 0),(5,intV c)]→ble bx [(2,.cells (edS ⟨⟨m1,n1,i1⟩,⟨m2,n2,i2⟩,q1⟩)),(3,.cells (edS ⟨⟨m3,n3,i3⟩,⟨m4,n4,i4⟩,q2⟩))]→K1 sl bx:=by
  intro c hcc sl bx s1 s2
  refine u1 _ _ (AWp.weaken s1 s2 ?_)
  clear u1 K1
  rw [hcc]
  by_cases c0:c < 0
  ·rw [decide_eq_true c0,Bool.true_or]
   refine sR1 c0 q1ex ?_
   exact aR
  rw [decide_eq_false c0,Bool.false_or]
  by_cases c1:c=0
  ·subst c1
   cases q1 <;> cases q2 <;> (
    refine sR q1ex ?_
    exact aR)
  ·rw [decide_eq_false c1,Bool.false_and]
   refine sR2 c0 c1 q1ex ?_
   exact aR
 by_cases hx:x=0
 ·subst hx
  refine sR q1ex ?_
  refine AWp.condT rfl ?_
  (refine lV q1ex fun K z=>?_;refine cc h2 ?_;apply z;clear z K;try simp only [thenA,blockA,if_true])
  exact tail y (by rw [if_pos rfl]) _ _ sS sB
 ·refine sR1 hx q1ex ?_
  refine AWp.condF rfl (AWp.skip ?_)
  exact tail x (by rw [if_neg hx]) _ _ sS sB
abbrev q2ex:List Nat:=[0,1,3,4,5,6,10,18,31,47]
theorem ok_Put18 (l:List EdgeT)(e:EdgeT)(hl:l.length≤1000000000000):CallOK Tryz.prog 295 [edsV l,edV e] (edsV (putE l e)):=by
 have hR:∃ R,goE e l 0 []=R:=⟨_,rfl⟩
 obtain⟨R,hR⟩:=hR
 have hput:putE l e=finE l e R:=by rw [putE_eq,hR]
 rw [hput]
 clear hput
 refine cB Tryz.func295 ?_
 refine sR q2ex ?_
 refine sR q2ex ?_
 refine AWp.promote 5 7 5 rfl ?_
 refine kR q2ex fun K1 u1=>?_
 refine AWp.block (AWp.forIdx l (X:=List EdgeT) (fun j out=>[(0,edsV l),(3,.box 3 0),(5,.acc 5),(6,intV j)]) (fun j out=>[(3,.cells (edS e)),(5,.rows 7 (edR out))])
  (fun j out=>goE e (l.drop j) j out=R∧j≤out.length∧out.length≤j+1) [] ⟨hR,by simp,by simp⟩ sS (by simp [ble,bget,edR]) ?_ ?_)
 rotate_left
 ·intro j out x hx hmem dp tk hlt hI
  obtain⟨hI,ho1,ho2⟩:=hI
  have hjl:=(List.getElem?_eq_some_iff.1 hx).1
  rw [dp,goE] at hI
  refine sK fun K2 u2=>?_
  (refine sQ q2ex fun K z=>?_;simp -implicitDefEqProofs only [EV,forall_const,implies_true,Nat.reduceAdd,Nat.reduceEqDiff,Nat.reduceBEq,Nat.reduceLeDiff,Nat.reduceSub,Nat.reduceMul,Int.reduceEq,Int.reduceLT,Int.reduceLE,Int.reduceSub,Int.reduceAdd,Int.reduceToNat,reduceCtorEq,Int.reduceNeg,TF3,TF4,TF9,TF127,TF198,hlt,edR_len];apply z;clear z K)
  refine gI u2 ?_
  clear u2 K2
  refine sK fun K2 u2=>?_
  refine AWp.block ?_
  refine sK fun K3 u3=>?_
  by_cases heq:x=e
  ·subst heq
   rw [if_pos rfl] at hI
   subst hI
   (refine sG q2ex [] 5 [] fun K z=>?_;simp -implicitDefEqProofs only [EV,forall_const,implies_true,Nat.reduceAdd,Nat.reduceEqDiff,Nat.reduceBEq,Nat.reduceLeDiff,Nat.reduceSub,Nat.reduceMul,Int.reduceEq,Int.reduceLT,Int.reduceLE,Int.reduceSub,Int.reduceAdd,Int.reduceToNat,reduceCtorEq,Int.reduceNeg,TF3,TF4,TF9,TF127,TF198,edC];refine⟨by omega,_,edR_get hx,rfl,?_⟩;(try simp -implicitDefEqProofs only [EV,forall_const,implies_true,Nat.reduceAdd,Nat.reduceEqDiff,Nat.reduceBEq,Nat.reduceLeDiff,Nat.reduceSub,Nat.reduceMul,Int.reduceEq,Int.reduceLT,Int.reduceLE,Int.reduceSub,Int.reduceAdd,Int.reduceToNat,reduceCtorEq,Int.reduceNeg,TF3,TF4,TF9,TF127,TF198,edC]);refine⟨_,opQ_eqE x x rfl rfl,?_⟩;(try simp -implicitDefEqProofs only [EV,forall_const,implies_true,Nat.reduceAdd,Nat.reduceEqDiff,Nat.reduceBEq,Nat.reduceLeDiff,Nat.reduceSub,Nat.reduceMul,Int.reduceEq,Int.reduceLT,Int.reduceLE,Int.reduceSub,Int.reduceAdd,Int.reduceToNat,reduceCtorEq,Int.reduceNeg,TF3,TF4,TF9,TF127,TF198,edC]);apply z;clear z K)
   refine AWp.condT rfl ?_
   rw [show finE l x none=l from rfl]
   refine sR q2ex ?_
   exact aR
  rw [if_neg heq] at hI
  (refine sG q2ex [] 5 [] fun K z=>?_;simp -implicitDefEqProofs only [EV,forall_const,implies_true,Nat.reduceAdd,Nat.reduceEqDiff,Nat.reduceBEq,Nat.reduceLeDiff,Nat.reduceSub,Nat.reduceMul,Int.reduceEq,Int.reduceLT,Int.reduceLE,Int.reduceSub,Int.reduceAdd,Int.reduceToNat,reduceCtorEq,Int.reduceNeg,TF3,TF4,TF9,TF127,TF198,edC,heq];refine⟨by omega,_,edR_get hx,rfl,?_⟩;(try simp -implicitDefEqProofs only [EV,forall_const,implies_true,Nat.reduceAdd,Nat.reduceEqDiff,Nat.reduceBEq,Nat.reduceLeDiff,Nat.reduceSub,Nat.reduceMul,Int.reduceEq,Int.reduceLT,Int.reduceLE,Int.reduceSub,Int.reduceAdd,Int.reduceToNat,reduceCtorEq,Int.reduceNeg,TF3,TF4,TF9,TF127,TF198,edC,heq]);refine⟨_,opQ_eqE x e rfl rfl,?_⟩;(try simp -implicitDefEqProofs only [EV,forall_const,implies_true,Nat.reduceAdd,Nat.reduceEqDiff,Nat.reduceBEq,Nat.reduceLeDiff,Nat.reduceSub,Nat.reduceMul,Int.reduceEq,Int.reduceLT,Int.reduceLE,Int.reduceSub,Int.reduceAdd,Int.reduceToNat,reduceCtorEq,Int.reduceNeg,TF3,TF4,TF9,TF127,TF198,edC,heq]);apply z;clear z K)
  refine AWp.condF rfl (AWp.skip (u3 _ _ ?_))
  clear u3 K3
  have hls:=ok_lessE e x
  refine sK fun K3 u3=>?_
  have fin:∀ out2:List EdgeT,goE e (l.drop (j+1)) (j+1) (out2++[x])=R→(out2++[x]).length≤j+2→j+1≤(out2++[x]).length→∀ sl bx,sle sl [(0,edsV l),(3,.box 3 0),(5,.acc 5),(6,intV j)]→ble bx [(3,.cells (edS e)),(5,.rows 7 (edR out2))]→K3 sl bx:=by
   intro out2 h1 h2 h3 sl bx s1 s2
   refine u3 _ _ (AWp.weaken s1 s2 ?_)
   clear u3 K3
   rw [List.length_append,List.length_cons,List.length_nil] at h2 h3
   (refine lQ q2ex fun K z=>?_;simp -implicitDefEqProofs only [EV,forall_const,implies_true,Nat.reduceAdd,Nat.reduceEqDiff,Nat.reduceBEq,Nat.reduceLeDiff,Nat.reduceSub,Nat.reduceMul,Int.reduceEq,Int.reduceLT,Int.reduceLE,Int.reduceSub,Int.reduceAdd,Int.reduceToNat,reduceCtorEq,Int.reduceNeg,TF3,TF4,TF9,TF127,TF198,edC,edR_len,List.length_append,List.length_cons,List.length_nil];refine⟨by omega,_,edR_get hx,rfl,?_⟩;(try simp -implicitDefEqProofs only [EV,forall_const,implies_true,Nat.reduceAdd,Nat.reduceEqDiff,Nat.reduceBEq,Nat.reduceLeDiff,Nat.reduceSub,Nat.reduceMul,Int.reduceEq,Int.reduceLT,Int.reduceLE,Int.reduceSub,Int.reduceAdd,Int.reduceToNat,reduceCtorEq,Int.reduceNeg,TF3,TF4,TF9,TF127,TF198,edC,edR_len,List.length_append,List.length_cons,List.length_nil]);refine⟨by simp,by unfold lim;omega,?_⟩;(try simp -implicitDefEqProofs only [EV,forall_const,implies_true,Nat.reduceAdd,Nat.reduceEqDiff,Nat.reduceBEq,Nat.reduceLeDiff,Nat.reduceSub,Nat.reduceMul,Int.reduceEq,Int.reduceLT,Int.reduceLE,Int.reduceSub,Int.reduceAdd,Int.reduceToNat,reduceCtorEq,Int.reduceNeg,TF3,TF4,TF9,TF127,TF198,edC,edR_len,List.length_append,List.length_cons,List.length_nil]);apply z;clear z K;try simp only [thenA,blockA,if_true])
   refine u2 _ _ ?_
   clear u2 K2
   (refine lV q2ex fun K z=>?_;refine cl ?_;apply z;clear z K;try simp only [thenA,blockA,if_true])
   exact⟨out2++[x],⟨h1,by rw [List.length_append,List.length_cons,List.length_nil];omega,by rw [List.length_append,List.length_cons,List.length_nil];omega⟩,sS,by simp [ble,bget,edR,edC]⟩
  by_cases hoj:out.length=j
  ·have hoj2:((out.length:Nat):Int)=(j:Int):=by omega
   cases hlx:lessE e x with
   | true =>
    rw [if_pos ⟨hoj,hlx⟩] at hI
    rw [hlx] at hls
    (refine sG q2ex [] 10 [] fun K z=>?_;simp -implicitDefEqProofs only [EV,forall_const,implies_true,Nat.reduceAdd,Nat.reduceEqDiff,Nat.reduceBEq,Nat.reduceLeDiff,Nat.reduceSub,Nat.reduceMul,Int.reduceEq,Int.reduceLT,Int.reduceLE,Int.reduceSub,Int.reduceAdd,Int.reduceToNat,reduceCtorEq,Int.reduceNeg,TF3,TF4,TF9,TF127,TF198,edC,edR_len,hoj2];refine⟨by omega,_,edR_get hx,rfl,?_⟩;(try simp -implicitDefEqProofs only [EV,forall_const,implies_true,Nat.reduceAdd,Nat.reduceEqDiff,Nat.reduceBEq,Nat.reduceLeDiff,Nat.reduceSub,Nat.reduceMul,Int.reduceEq,Int.reduceLT,Int.reduceLE,Int.reduceSub,Int.reduceAdd,Int.reduceToNat,reduceCtorEq,Int.reduceNeg,TF3,TF4,TF9,TF127,TF198,edC,edR_len,hoj2]);refine⟨_,.inl ⟨_,rfl,hls,rfl⟩,?_⟩;(try simp -implicitDefEqProofs only [EV,forall_const,implies_true,Nat.reduceAdd,Nat.reduceEqDiff,Nat.reduceBEq,Nat.reduceLeDiff,Nat.reduceSub,Nat.reduceMul,Int.reduceEq,Int.reduceLT,Int.reduceLE,Int.reduceSub,Int.reduceAdd,Int.reduceToNat,reduceCtorEq,Int.reduceNeg,TF3,TF4,TF9,TF127,TF198,edC,edR_len,hoj2]);apply z;clear z K)
    refine AWp.condT rfl ?_
    (refine lQ q2ex fun K z=>?_;simp -implicitDefEqProofs only [EV,forall_const,implies_true,Nat.reduceAdd,Nat.reduceEqDiff,Nat.reduceBEq,Nat.reduceLeDiff,Nat.reduceSub,Nat.reduceMul,Int.reduceEq,Int.reduceLT,Int.reduceLE,Int.reduceSub,Int.reduceAdd,Int.reduceToNat,reduceCtorEq,Int.reduceNeg,TF3,TF4,TF9,TF127,TF198,edR_len];refine⟨by simp,by unfold lim;omega,?_⟩;(try simp -implicitDefEqProofs only [EV,forall_const,implies_true,Nat.reduceAdd,Nat.reduceEqDiff,Nat.reduceBEq,Nat.reduceLeDiff,Nat.reduceSub,Nat.reduceMul,Int.reduceEq,Int.reduceLT,Int.reduceLE,Int.reduceSub,Int.reduceAdd,Int.reduceToNat,reduceCtorEq,Int.reduceNeg,TF3,TF4,TF9,TF127,TF198,edR_len]);apply z;clear z K;try simp only [thenA,blockA,if_true])
    exact fin (out++[e]) hI (by rw [List.length_append,List.length_append];simp only [List.length_cons,List.length_nil];omega) (by rw [List.length_append,List.length_append];simp only [List.length_cons,List.length_nil];omega) _ _ sS (by simp [ble,bget,edR,edC])
   | false =>
    rw [if_neg (by rw [hlx];simp)] at hI
    rw [hlx] at hls
    (refine sG q2ex [] 10 [] fun K z=>?_;simp -implicitDefEqProofs only [EV,forall_const,implies_true,Nat.reduceAdd,Nat.reduceEqDiff,Nat.reduceBEq,Nat.reduceLeDiff,Nat.reduceSub,Nat.reduceMul,Int.reduceEq,Int.reduceLT,Int.reduceLE,Int.reduceSub,Int.reduceAdd,Int.reduceToNat,reduceCtorEq,Int.reduceNeg,TF3,TF4,TF9,TF127,TF198,edC,edR_len,hoj2];refine⟨by omega,_,edR_get hx,rfl,?_⟩;(try simp -implicitDefEqProofs only [EV,forall_const,implies_true,Nat.reduceAdd,Nat.reduceEqDiff,Nat.reduceBEq,Nat.reduceLeDiff,Nat.reduceSub,Nat.reduceMul,Int.reduceEq,Int.reduceLT,Int.reduceLE,Int.reduceSub,Int.reduceAdd,Int.reduceToNat,reduceCtorEq,Int.reduceNeg,TF3,TF4,TF9,TF127,TF198,edC,edR_len,hoj2]);refine⟨_,.inl ⟨_,rfl,hls,rfl⟩,?_⟩;(try simp -implicitDefEqProofs only [EV,forall_const,implies_true,Nat.reduceAdd,Nat.reduceEqDiff,Nat.reduceBEq,Nat.reduceLeDiff,Nat.reduceSub,Nat.reduceMul,Int.reduceEq,Int.reduceLT,Int.reduceLE,Int.reduceSub,Int.reduceAdd,Int.reduceToNat,reduceCtorEq,Int.reduceNeg,TF3,TF4,TF9,TF127,TF198,edC,edR_len,hoj2]);apply z;clear z K)
    refine AWp.condF rfl (AWp.skip ?_)
    exact fin out hI (by rw [List.length_append];simp only [List.length_cons,List.length_nil];omega) (by rw [List.length_append];simp only [List.length_cons,List.length_nil];omega) _ _ sS (by simp [ble,bget,edR,edC])
  ·have hoj2:¬ ((out.length:Nat):Int)=(j:Int):=by omega
   rw [if_neg (fun h=>hoj h.1)] at hI
   (refine sG q2ex [] 10 [] fun K z=>?_;simp -implicitDefEqProofs only [EV,forall_const,implies_true,Nat.reduceAdd,Nat.reduceEqDiff,Nat.reduceBEq,Nat.reduceLeDiff,Nat.reduceSub,Nat.reduceMul,Int.reduceEq,Int.reduceLT,Int.reduceLE,Int.reduceSub,Int.reduceAdd,Int.reduceToNat,reduceCtorEq,Int.reduceNeg,TF3,TF4,TF9,TF127,TF198,edC,edR_len,hoj2];apply z;clear z K)
   refine AWp.condF rfl (AWp.skip ?_)
   exact fin out hI (by rw [List.length_append];simp only [List.length_cons,List.length_nil];omega) (by rw [List.length_append];simp only [List.length_cons,List.length_nil];omega) _ _ sS (by simp [ble,bget,edR,edC])
 intro out hI
 obtain⟨hI,ho1,ho2⟩:=hI
 rw [List.drop_length,goE] at hI
 subst hI
 refine sK fun K2 u2=>?_
 (refine sQ q2ex fun K z=>?_;simp -implicitDefEqProofs only [EV,forall_const,implies_true,Nat.reduceAdd,Nat.reduceEqDiff,Nat.reduceBEq,Nat.reduceLeDiff,Nat.reduceSub,Nat.reduceMul,Int.reduceEq,Int.reduceLT,Int.reduceLE,Int.reduceSub,Int.reduceAdd,Int.reduceToNat,reduceCtorEq,Int.reduceNeg,TF3,TF4,TF9,TF127,TF198,Int.lt_irrefl,edR_len];apply z;clear z K)
 refine AWp.stopK rfl ?_
 simp only [thenA,blockA,if_true]
 refine u1 _ _ ?_
 clear u2 K2 u1 K1
 refine sK fun K1 u1=>?_
 by_cases hoj:out.length=l.length
 ·have hoj2:((out.length:Nat):Int)=(l.length:Int):=by omega
  rw [show finE l e (some out)=out++[e] from if_pos hoj] at u1
  (refine sQ q2ex fun K z=>?_;simp -implicitDefEqProofs only [EV,forall_const,implies_true,Nat.reduceAdd,Nat.reduceEqDiff,Nat.reduceBEq,Nat.reduceLeDiff,Nat.reduceSub,Nat.reduceMul,Int.reduceEq,Int.reduceLT,Int.reduceLE,Int.reduceSub,Int.reduceAdd,Int.reduceToNat,reduceCtorEq,Int.reduceNeg,TF3,TF4,TF9,TF127,TF198,edR_len,hoj2];apply z;clear z K)
  refine AWp.condT rfl ?_
  (refine lQ q2ex fun K z=>?_;simp -implicitDefEqProofs only [EV,forall_const,implies_true,Nat.reduceAdd,Nat.reduceEqDiff,Nat.reduceBEq,Nat.reduceLeDiff,Nat.reduceSub,Nat.reduceMul,Int.reduceEq,Int.reduceLT,Int.reduceLE,Int.reduceSub,Int.reduceAdd,Int.reduceToNat,reduceCtorEq,Int.reduceNeg,TF3,TF4,TF9,TF127,TF198,edR_len];refine⟨by simp,by unfold lim;omega,?_⟩;(try simp -implicitDefEqProofs only [EV,forall_const,implies_true,Nat.reduceAdd,Nat.reduceEqDiff,Nat.reduceBEq,Nat.reduceLeDiff,Nat.reduceSub,Nat.reduceMul,Int.reduceEq,Int.reduceLT,Int.reduceLE,Int.reduceSub,Int.reduceAdd,Int.reduceToNat,reduceCtorEq,Int.reduceNeg,TF3,TF4,TF9,TF127,TF198,edR_len]);apply z;clear z K;try simp only [thenA,blockA,if_true])
  refine u1 _ _ ?_
  refine sR q2ex ?_
  have e1:edsV (out++[e])=.d (.slice (edR out++[edC e])):=by simp [edR]
  rw [e1]
  exact aR
 ·have hoj2:¬ ((out.length:Nat):Int)=(l.length:Int):=by omega
  rw [show finE l e (some out)=out from if_neg hoj] at u1
  (refine sQ q2ex fun K z=>?_;simp -implicitDefEqProofs only [EV,forall_const,implies_true,Nat.reduceAdd,Nat.reduceEqDiff,Nat.reduceBEq,Nat.reduceLeDiff,Nat.reduceSub,Nat.reduceMul,Int.reduceEq,Int.reduceLT,Int.reduceLE,Int.reduceSub,Int.reduceAdd,Int.reduceToNat,reduceCtorEq,Int.reduceNeg,TF3,TF4,TF9,TF127,TF198,edR_len,hoj2];apply z;clear z K)
  refine AWp.condF rfl (AWp.skip (u1 _ _ ?_))
  refine sR q2ex ?_
  exact aR
theorem vrR_row (l:List VarT):∀ row,row∈vrR l→row.length=4:=by intro row h;obtain⟨t,_,rfl⟩:=List.mem_map.1 h;rfl
theorem varsE_len (s:List VarT)(m:Bool)(own:Str)(l:List Str):(varsE s m own l).length=s.length+l.length:=by simp [varsE]
abbrev q3ex:List Nat:=[0,1,2,3,8,9,10,11,17]
theorem ok_vars18 (s:List VarT)(m:Bool)(own:Str)(l:List Str)(hs:s.length≤10*sm)(hl:l.length≤sm):CallOK Tryz.prog 212 [vrV s,boolV m,strV own,strsV l] (vrV (varsE s m own l)):=by
 refine cB Tryz.func212 ?_
 refine sR q3ex ?_
 (refine AWp.seqR q3ex [11] (by decide +kernel) fun K z=>?_;refine ev ?_;refine⟨vrR_row _,by (try simp only [vrR_len,List.length_nil]);unfold lim sm at *;omega,?_⟩;(try refine ev ?_);apply z;clear z K)
 refine kR q3ex fun K1 u1=>?_
 refine AWp.block (AWp.forIdx l (X:=Unit) (fun j _=>[(1,boolV m),(2,strV own),(3,strsV l),(9,.acc 11),(10,intV j)]) (fun j _=>[(11,.rows 4 (vrR (s++(List.range j).map fun i=>⟨(l[i]?).getD [],m,own,i⟩)))])
  (fun _ _=>True) () trivial sS (by simp [ble,bget,vrR]) ?_ ?_)
 rotate_left
 ·intro j _ d hd hmem dp tk hlt _
  have hj:=(List.getElem?_eq_some_iff.1 hd).1
  have e2:vrR (s++(List.range (j+1)).map fun i=>⟨(l[i]?).getD [],m,own,i⟩)=vrR (s++(List.range j).map fun i=>⟨(l[i]?).getD [],m,own,i⟩)++[[.str d,.bool m,.str own,.int .i64 j]]:=by
   rw [List.range_succ,List.map_append,← List.append_assoc]
   simp [vrR,hd,vaC]
  have e3:(vrR (s++(List.range j).map fun i=>⟨(l[i]?).getD [],m,own,i⟩)).length=s.length+j:=by simp [vrR]
  rw [e2]
  generalize vrR (s++(List.range j).map fun i=>⟨(l[i]?).getD [],m,own,i⟩)=PR at *
  refine kR1 hlt q3ex fun K2 u2=>?_
  refine gI u2 ?_
  clear u2 K2
  refine sK fun K2 u2=>?_
  refine AWp.block ?_
  (refine lQ q3ex fun K z=>?_;refine ev1 e3 ?_;refine⟨by omega,_,strR_get hd,rfl,?_⟩;(try refine ev1 e3 ?_);refine⟨by simp,by (try simp only [e3]);unfold lim sm at *;omega,?_⟩;(try refine ev1 e3 ?_);apply z;clear z K;try simp only [thenA,blockA,if_true])
  refine u2 _ _ ?_
  clear u2 K2
  (refine lV q3ex fun K z=>?_;refine cl ?_;apply z;clear z K;try simp only [thenA,blockA,if_true])
  exact⟨(),trivial,sS,by simp [ble,bget]⟩
 intro _ _
 refine kR1 Int.lt_irrefl q3ex fun K2 u2=>?_
 refine AWp.stopK rfl ?_
 simp only [thenA,blockA,if_true]
 refine u1 _ _ ?_
 clear u2 K2 u1 K1
 refine sR q3ex ?_
 exact aR
theorem inE_eq (s:List VarT)(to:NodeT)(b:Bool)(l:List EdgeT)(t:Ty):inE s to b l t=match (if t.args.isEmpty=true then findE s t.name else none) with
  | some v=>putE l ⟨v.node,to,b⟩
  | none=>inEs s to l t.args:=by cases t;rw [inE];rfl
abbrev q4ex:List Nat:=[0,1,2,3,4,7,8,10,11,12,22,32,47]
theorem ok_in18 (s:List VarT)(hs:s.length≤10*sm)(to:NodeT):∀ (t:Ty)(b:Bool)(l:List EdgeT),l.length+t.tlen≤1000000000000→CallOK Tryz.prog 260 [edsV l,vrV s,noV to,tyV t,boolV b] (edsV (inE s to b l t)):=by
 intro t
 induction t using Ty.induct with
 | h t ih =>
 intro b l hl
 have htl:=Ty.tlen_eq t
 have hal:=tlenL_len t.args
 rw [inE_eq]
 have hR:∃ R,inEs s to l t.args=R:=⟨_,rfl⟩
 obtain⟨R,hR⟩:=hR
 rw [hR]
 refine cB Tryz.func260 ?_
 refine sR q4ex ?_
 refine kR q4ex fun K1 u1=>?_
 have fin:(if t.args.isEmpty=true then findE s t.name else none)=none→∀ sl bx,sle sl [(0,edsV l),(1,vrV s),(7,.box 7 0),(8,.box 8 0)]→ble bx [(7,.cells (noS to)),(8,.cells [.d (.str t.name),.d (.slice (tyR t.args)),.d (.int .i64 t.pos)])]→K1 sl bx:=by
  intro hno sl bx s1 s2
  refine u1 _ _ (AWp.weaken s1 s2 ?_)
  clear u1 K1
  rw [hno]
  refine kR q4ex fun K1 u1=>?_
  refine AWp.block (AWp.forIdx t.args (X:=List EdgeT) (fun j z=>[(0,edsV z),(1,vrV s),(7,.box 7 0),(8,.box 8 0),(12,intV j)])
   (fun j z=>[(7,.cells (noS to)),(8,.cells [.d (.str t.name),.d (.slice (tyR t.args)),.d (.int .i64 t.pos)])])
   (fun j z=>inEs s to z (t.args.drop j)=R∧z.length+Ty.tlenL (t.args.drop j)≤1000000000000) l ⟨hR,by simp only [List.drop_zero];omega⟩ sS sB ?_ ?_)
  rotate_left
  ·intro j z d hd hmem dp tk hlt hI
   obtain⟨hI,hz⟩:=hI
   have hj:=(List.getElem?_eq_some_iff.1 hd).1
   rw [dp,inEs] at hI
   rw [dp,Ty.tlenL] at hz
   have hc:=ih d hmem true z (by omega)
   have hlen:=inE_len s to d true z
   generalize inE s to true z d=z2 at *
   refine kR1 hlt q4ex fun K2 u2=>?_
   refine gI u2 ?_
   clear u2 K2
   refine sK fun K2 u2=>?_
   refine AWp.block ?_
   (refine lG q4ex [] 8 [] fun K z=>?_;refine ev ?_;refine ci (tyR_get hd) ?_;refine cc hc ?_;apply z;clear z K;try simp only [thenA,blockA,if_true])
   refine u2 _ _ ?_
   clear u2 K2
   (refine lV q4ex fun K z=>?_;refine cl ?_;apply z;clear z K;try simp only [thenA,blockA,if_true])
   exact⟨z2,⟨hI,by omega⟩,sS,by simp [ble,bget]⟩
  intro z hI
  obtain⟨hI,_⟩:=hI
  rw [List.drop_length,inEs] at hI
  subst hI
  refine kR1 Int.lt_irrefl q4ex fun K2 u2=>?_
  refine AWp.stopK rfl ?_
  simp only [thenA,blockA,if_true]
  refine u1 _ _ ?_
  clear u2 K2 u1 K1
  refine sR q4ex ?_
  exact aR
 by_cases ha:t.args=[]
 ·have hz:((t.args.length:Nat):Int)=0:=by rw [ha];rfl
  refine AWp.block (AWp.forIdx s (X:=Unit) (fun j _=>[(0,edsV l),(1,vrV s),(4,boolV b),(7,.box 7 0),(8,.box 8 0),(11,intV j)])
   (fun j _=>[(7,.cells (noS to)),(8,.cells [.d (.str t.name),.d (.slice (tyR t.args)),.d (.int .i64 t.pos)])])
   (fun j _=>findE s t.name=findE (s.drop j) t.name) () rfl sS sB ?_ ?_)
  rotate_left
  ·intro j _ v hv hmem dp tk hlt hI
   have hj:=(List.getElem?_eq_some_iff.1 hv).1
   rw [dp] at hI
   unfold findE at hI
   rw [List.find?_cons] at hI
   refine sK fun K2 u2=>?_
   (refine sQ q4ex fun K z=>?_;simp -implicitDefEqProofs only [EV,forall_const,implies_true,Nat.reduceAdd,Nat.reduceEqDiff,Nat.reduceBEq,Nat.reduceLeDiff,Nat.reduceSub,Nat.reduceMul,Int.reduceEq,Int.reduceLT,Int.reduceLE,Int.reduceSub,Int.reduceAdd,Int.reduceToNat,reduceCtorEq,Int.reduceNeg,TF3,TF4,TF9,TF23,TF25,TF196,TF198,TF256,TF300,hlt,hz,vrR_len];apply z;clear z K)
   refine gI u2 ?_
   clear u2 K2
   refine sK fun K2 u2=>?_
   refine AWp.block ?_
   by_cases hn:v.name=t.name
   ·rw [decide_eq_true hn] at hI
    have hI2:findE s t.name=some v:=hI
    have hp:=ok_Put18 l ⟨v.node,to,b⟩ (by omega)
    rw [ha,List.isEmpty_nil,if_pos rfl,hI2]
    simp only
    generalize putE l ⟨v.node,to,b⟩=z at *
    (refine sG q4ex [] 7 [] fun K z=>?_;simp -implicitDefEqProofs only [EV,forall_const,implies_true,Nat.reduceAdd,Nat.reduceEqDiff,Nat.reduceBEq,Nat.reduceLeDiff,Nat.reduceSub,Nat.reduceMul,Int.reduceEq,Int.reduceLT,Int.reduceLE,Int.reduceSub,Int.reduceAdd,Int.reduceToNat,reduceCtorEq,Int.reduceNeg,TF3,TF4,TF9,TF23,TF25,TF196,TF198,TF256,TF300,hn,vaC];refine⟨by omega,_,vrR_get hv,rfl,?_⟩;(try simp -implicitDefEqProofs only [EV,forall_const,implies_true,Nat.reduceAdd,Nat.reduceEqDiff,Nat.reduceBEq,Nat.reduceLeDiff,Nat.reduceSub,Nat.reduceMul,Int.reduceEq,Int.reduceLT,Int.reduceLE,Int.reduceSub,Int.reduceAdd,Int.reduceToNat,reduceCtorEq,Int.reduceNeg,TF3,TF4,TF9,TF23,TF25,TF196,TF198,TF256,TF300,hn,vaC]);apply z;clear z K)
    refine AWp.condT rfl ?_
    (refine sG q4ex [] 9 [] fun K z=>?_;simp -implicitDefEqProofs only [EV,forall_const,implies_true,Nat.reduceAdd,Nat.reduceEqDiff,Nat.reduceBEq,Nat.reduceLeDiff,Nat.reduceSub,Nat.reduceMul,Int.reduceEq,Int.reduceLT,Int.reduceLE,Int.reduceSub,Int.reduceAdd,Int.reduceToNat,reduceCtorEq,Int.reduceNeg,TF3,TF4,TF9,TF23,TF25,TF196,TF198,TF256,TF300,vaC];refine⟨by omega,_,vrR_get hv,rfl,?_⟩;(try simp -implicitDefEqProofs only [EV,forall_const,implies_true,Nat.reduceAdd,Nat.reduceEqDiff,Nat.reduceBEq,Nat.reduceLeDiff,Nat.reduceSub,Nat.reduceMul,Int.reduceEq,Int.reduceLT,Int.reduceLE,Int.reduceSub,Int.reduceAdd,Int.reduceToNat,reduceCtorEq,Int.reduceNeg,TF3,TF4,TF9,TF23,TF25,TF196,TF198,TF256,TF300,vaC]);refine⟨_,.inl ⟨_,rfl,hp,rfl⟩,?_⟩;(try simp -implicitDefEqProofs only [EV,forall_const,implies_true,Nat.reduceAdd,Nat.reduceEqDiff,Nat.reduceBEq,Nat.reduceLeDiff,Nat.reduceSub,Nat.reduceMul,Int.reduceEq,Int.reduceLT,Int.reduceLE,Int.reduceSub,Int.reduceAdd,Int.reduceToNat,reduceCtorEq,Int.reduceNeg,TF3,TF4,TF9,TF23,TF25,TF196,TF198,TF256,TF300,vaC]);apply z;clear z K)
    exact aR
   ·rw [decide_eq_false hn] at hI
    (refine sG q4ex [] 7 [] fun K z=>?_;simp -implicitDefEqProofs only [EV,forall_const,implies_true,Nat.reduceAdd,Nat.reduceEqDiff,Nat.reduceBEq,Nat.reduceLeDiff,Nat.reduceSub,Nat.reduceMul,Int.reduceEq,Int.reduceLT,Int.reduceLE,Int.reduceSub,Int.reduceAdd,Int.reduceToNat,reduceCtorEq,Int.reduceNeg,TF3,TF4,TF9,TF23,TF25,TF196,TF198,TF256,TF300,hn,vaC];refine⟨by omega,_,vrR_get hv,rfl,?_⟩;(try simp -implicitDefEqProofs only [EV,forall_const,implies_true,Nat.reduceAdd,Nat.reduceEqDiff,Nat.reduceBEq,Nat.reduceLeDiff,Nat.reduceSub,Nat.reduceMul,Int.reduceEq,Int.reduceLT,Int.reduceLE,Int.reduceSub,Int.reduceAdd,Int.reduceToNat,reduceCtorEq,Int.reduceNeg,TF3,TF4,TF9,TF23,TF25,TF196,TF198,TF256,TF300,hn,vaC]);apply z;clear z K)
    refine AWp.condF rfl (AWp.skip (u2 _ _ ?_))
    clear u2 K2
    (refine lV q4ex fun K z=>?_;refine cl ?_;apply z;clear z K;try simp only [thenA,blockA,if_true])
    exact⟨(),hI,sS,by simp [ble,bget]⟩
  intro _ hI
  rw [List.drop_length] at hI
  refine sK fun K2 u2=>?_
  (refine sQ q4ex fun K z=>?_;simp -implicitDefEqProofs only [EV,forall_const,implies_true,Nat.reduceAdd,Nat.reduceEqDiff,Nat.reduceBEq,Nat.reduceLeDiff,Nat.reduceSub,Nat.reduceMul,Int.reduceEq,Int.reduceLT,Int.reduceLE,Int.reduceSub,Int.reduceAdd,Int.reduceToNat,reduceCtorEq,Int.reduceNeg,TF3,TF4,TF9,TF23,TF25,TF196,TF198,TF256,TF300,Int.lt_irrefl,vrR_len];apply z;clear z K)
  refine AWp.stopK rfl ?_
  simp only [thenA,blockA,if_true]
  exact fin (by rw [ha,List.isEmpty_nil,if_pos rfl,hI];rfl) _ _ sS sB
 ·have hz:¬ ((t.args.length:Nat):Int)=0:=by
   intro h
   exact ha (List.length_eq_zero_iff.1 (by omega))
  refine AWp.block (AWp.loop (X:=Unit) (fun _=>[(0,edsV l),(1,vrV s),(4,boolV b),(7,.box 7 0),(8,.box 8 0),(11,intV 0)])
   (fun _=>[(7,.cells (noS to)),(8,.cells [.d (.str t.name),.d (.slice (tyR t.args)),.d (.int .i64 t.pos)])])
   (fun _=>True) (fun _=>0) () trivial sS sB ?_)
  intro _ _
  refine sK fun K2 u2=>?_
  by_cases h0:(0:Int) < (s.length:Int)
  ·(refine sQ q4ex fun K z=>?_;simp -implicitDefEqProofs only [EV,forall_const,implies_true,Nat.reduceAdd,Nat.reduceEqDiff,Nat.reduceBEq,Nat.reduceLeDiff,Nat.reduceSub,Nat.reduceMul,Int.reduceEq,Int.reduceLT,Int.reduceLE,Int.reduceSub,Int.reduceAdd,Int.reduceToNat,reduceCtorEq,Int.reduceNeg,TF3,TF4,TF9,TF23,TF25,TF196,TF198,TF256,TF300,h0,hz,vrR_len];apply z;clear z K)
   refine AWp.stopK rfl ?_
   simp only [thenA,blockA,if_true]
   exact fin (by rw [if_neg (by rw [List.isEmpty_iff];exact ha)]) _ _ sS sB
  ·(refine sQ q4ex fun K z=>?_;simp -implicitDefEqProofs only [EV,forall_const,implies_true,Nat.reduceAdd,Nat.reduceEqDiff,Nat.reduceBEq,Nat.reduceLeDiff,Nat.reduceSub,Nat.reduceMul,Int.reduceEq,Int.reduceLT,Int.reduceLE,Int.reduceSub,Int.reduceAdd,Int.reduceToNat,reduceCtorEq,Int.reduceNeg,TF3,TF4,TF9,TF23,TF25,TF196,TF198,TF256,TF300,h0,hz,vrR_len];apply z;clear z K)
   refine AWp.stopK rfl ?_
   simp only [thenA,blockA,if_true]
   exact fin (by rw [if_neg (by rw [List.isEmpty_iff];exact ha)]) _ _ sS sB
theorem argsT_eq (s:List VarT)(m:Bool)(own:Str)(i:Nat)(l:List EdgeT)(t:Ty):argsT s m own i l t=argsE s false t.name 0 (inE s ⟨m,own,i⟩ false l t) t.args:=by cases t;rw [argsT];rfl
theorem sq_ge (x:Nat):x≤x*x:=by
 cases x with
 | zero=>simp
 | succ n=>exact Nat.le_mul_of_pos_left _ (by omega)
abbrev q5ex:List Nat:=[0,1,2,3,4,10,11,15]
theorem ok_args18T (s:List VarT)(hs:s.length≤10*sm):∀ (t:Ty)(m:Bool)(own:Str)(l:List EdgeT),l.length+Ty.tlenL t.args*Ty.tlenL t.args≤1000000000000→CallOK Tryz.prog 214 [edsV l,vrV s,boolV m,strV own,tysV t.args] (edsV (argsE s m own 0 l t.args)):=by
 intro t
 induction t using Ty.induct with
 | h t ih =>
 intro m own l hl
 have hal:=tlenL_len t.args
 have hsq:=sq_ge (Ty.tlenL t.args)
 generalize t.args=a at *
 have hR:∃ R,argsE s m own 0 l a=R:=⟨_,rfl⟩
 obtain⟨R,hR⟩:=hR
 rw [hR]
 refine cB Tryz.func214 ?_
 refine sR q5ex ?_
 refine kR q5ex fun K1 u1=>?_
 refine AWp.block (AWp.forIdx a (X:=List EdgeT) (fun j z=>[(0,edsV z),(1,vrV s),(2,boolV m),(3,strV own),(4,tysV a),(11,intV j)]) (fun j z=>[])
  (fun j z=>argsE s m own j z (a.drop j)=R∧z.length+Ty.tlenL (a.drop j)*Ty.tlenL (a.drop j)≤1000000000000) l ⟨hR,by simpa using hl⟩ sS (by simp [ble]) ?_ ?_)
 rotate_left
 ·intro j z d hd hmem dp tk hlt hI
  obtain⟨hI,hz⟩:=hI
  have hj:=(List.getElem?_eq_some_iff.1 hd).1
  rw [dp,argsE,argsT_eq] at hI
  rw [dp,Ty.tlenL] at hz
  have h1:=sq_add d.tlen (Ty.tlenL (a.drop (j+1)))
  have h2:=sq_ge d.tlen
  have h3:=inE_len s ⟨m,own,j⟩ d false z
  have hc1:=ok_in18 s hs ⟨m,own,j⟩ d false z (by omega)
  have h4:=argsT_len s d m own j z
  rw [argsT_eq] at h4
  generalize hz1:inE s ⟨m,own,j⟩ false z d=z1 at *
  have h5:d.tlen=d.name.length+4+Ty.tlenL d.args:=Ty.tlen_eq d
  have h6:d.tlen+Ty.tlenL d.args*Ty.tlenL d.args≤d.tlen*d.tlen:=by
   generalize Ty.tlenL d.args=y at *
   generalize d.tlen=x at *
   have g6:x*(y+4)≤x*x:=Nat.mul_le_mul_left _ (by omega)
   have g7:x*(y+4)=x*y+x*4:=Nat.mul_add _ _ _
   have g8:y*y≤x*y:=Nat.mul_le_mul_right _ (by omega)
   omega
  have hc2:=ih d hmem false d.name z1 (by omega)
  generalize argsE s false d.name 0 z1 d.args=z2 at *
  refine kR1 hlt q5ex fun K2 u2=>?_
  refine gI u2 ?_
  clear u2 K2
  refine sK fun K2 u2=>?_
  refine AWp.block ?_
  (refine sV q5ex fun K z=>?_;refine ci (tyR_get hd) ?_;refine cc hc1 ?_;apply z;clear z K)
  (refine lG q5ex [] 12 [] fun K z=>?_;refine ev ?_;refine ci (tyR_get hd) ?_;refine ci (tyR_get hd) ?_;refine cc hc2 ?_;apply z;clear z K;try simp only [thenA,blockA,if_true])
  refine u2 _ _ ?_
  clear u2 K2
  (refine lV q5ex fun K z=>?_;refine cl ?_;apply z;clear z K;try simp only [thenA,blockA,if_true])
  exact⟨z2,⟨hI,by omega⟩,sS,by simp [ble]⟩
 intro z hI
 obtain⟨hI,_⟩:=hI
 rw [List.drop_length,argsE] at hI
 subst hI
 refine kR1 Int.lt_irrefl q5ex fun K2 u2=>?_
 refine AWp.stopK rfl ?_
 simp only [thenA,blockA,if_true]
 refine u1 _ _ ?_
 clear u2 K2 u1 K1
 refine sR q5ex ?_
 exact aR
theorem ok_args18 (s:List VarT)(hs:s.length≤10*sm)(m:Bool)(own:Str)(a:List Ty)(l:List EdgeT)(h:l.length+Ty.tlenL a*Ty.tlenL a≤1000000000000):CallOK Tryz.prog 214 [edsV l,vrV s,boolV m,strV own,tysV a] (edsV (argsE s m own 0 l a)) :=
 ok_args18T s hs (.mk [] a 0) m own l h
end Go.Abs
