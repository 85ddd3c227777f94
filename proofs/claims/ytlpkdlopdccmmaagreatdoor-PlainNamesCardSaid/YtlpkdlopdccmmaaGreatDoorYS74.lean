/- slices.Contains of strings, ContainsFunc with closures kept as data; declare.when, first, each -/
import Derived.Test.YtlpkdlopdccmmaaGreatDoorYS25
import Derived.Test.YtlpkdlopdccmmaaGreatDoorYAb14
import Derived.Test.YtlpkdlopdccmmaaGreatDoorYS51
import Derived.Test.YtlpkdlopdccmmaaGreatDoorYS54
import Derived.Test.YtlpkdlopdccmmaaGreatDoorYF20
namespace Go.Abs
set_option linter.unusedSimpArgs false
set_option linter.unusedVariables false
open Go Go.Proofs Tryz
set_option maxRecDepth 100000
set_option maxHeartbeats 1000000
theorem idxF_any {α:Type} (p:α→Bool)(l:List α):decide (idxF p l ≥ 0)=l.any p:=by
 unfold idxF
 cases h:l.findIdx? p with
 | none =>
  rw [List.findIdx?_eq_none_iff] at h
  simp only
  rw [decide_eq_false (by decide)]
  symm
  rw [List.any_eq_false]
  intro x hx;rw [h x hx];decide
 | some i =>
  obtain⟨hlt,hp,_⟩:=List.findIdx?_eq_some_iff_getElem.1 h
  simp only
  rw [decide_eq_true (by omega)]
  symm
  rw [List.any_eq_true]
  exact⟨_,List.getElem_mem hlt,hp⟩
abbrev q1nx:List Nat:=[0,1,4,5,7,8,9,16]
theorem ok_IndexS (l:List Str)(hl:l.length≤sm)(s:Str):CallOK prog 235 [.d (.slice (strR l)),strV s] (intV (idxF (fun x=>decide (s=x)) l)):=by
 refine cB func235 ?_
 refine sR q1nx ?_
 refine kR q1nx fun K1 u1=>?_
 refine AWp.block (AWp.forIdx l (X:=Unit) (fun j _=>[(0,.d (.slice (strR l))),(1,strV s),(7,intV l.length),(8,intV j)]) (fun _ _=>[])
  (fun j _=>∀ y,y∈l.take j→decide (s=y)=false) () (by simp) sS sB ?_ ?_)
 ·intro _ hI
  rw [List.take_length] at hI
  refine sR1 Int.lt_irrefl q1nx ?_
  refine AWp.stop rfl ?_
  simp only [thenA,blockA,if_true]
  refine u1 _ _ ?_
  refine sR q1nx ?_
  rw [idxF_none hI]
  exact aR
 ·intro j _ d hd hmem dp tk hlt hI
  refine sR1 hlt q1nx ?_
  refine AWp.goOn rfl ?_
  refine sK fun K2 u2=>?_
  refine AWp.block ?_
  refine sR q1nx ?_
  (refine sV q1nx fun K z=>?_;refine ci (strR_get hd) ?_;apply z;clear z K)
  refine AWp.cond rfl (fun hc=>?_) (fun hc=>?_)
  ·refine sR q1nx ?_
   rw [idxF_some hd hc hI]
   exact aR
  ·refine AWp.skip (u2 _ _ ?_)
   clear u2 K2
   refine lT q1nx ?_
   refine⟨(),?_,sS,sB⟩
   rw [tk]
   intro y hy
   rcases List.mem_append.1 hy with hy | hy
   ·exact hI y hy
   ·simp only [List.mem_cons,List.not_mem_nil,or_false] at hy
    rw [hy];exact hc
theorem ok_SContains (l:List Str)(hl:l.length≤sm)(s:Str):CallOK prog 175 [.d (.slice (strR l)),strV s] (boolV (decide (s∈l))):=by
 have hi:=ok_IndexS l hl s
 have e:decide (s∈l)=decide (idxF (fun x=>decide (s=x)) l ≥ 0):=by
  rw [idxF_any,Bool.eq_iff_iff,List.any_eq_true]
  simp
 rw [e]
 generalize idxF (fun x=>decide (s=x)) l=k at *
 refine cB func175 ?_
 refine sR [0,1,4] ?_
 refine sC hi [0,1,4] ?_
 exact aR
abbrev q2nx:List Nat:=[0,1,4,5,7,8,9,16]
theorem ok_IdxD (f:FuncId)(ys:List D)(p:Decl→Bool)(l:List Decl)(hl:l.length≤sm)(hs:∀ t,t∈l→FnOK prog (.cl f ys) [deV t] (.d (.bool (p t)))) :
  CallOK prog 168 [.d (.slice (deR l)),.d (.cl f ys)] (intV (idxF p l)):=by
 refine cB func168 ?_
 refine sR q2nx ?_
 refine kR q2nx fun K1 u1=>?_
 refine AWp.block (AWp.forIdx l (X:=Unit) (fun j _=>[(0,.d (.slice (deR l))),(1,.d (.cl f ys)),(7,intV l.length),(8,intV j)]) (fun _ _=>[])
  (fun j _=>∀ y,y∈l.take j→p y=false) () (by simp) sS sB ?_ ?_)
 ·intro _ hI
  rw [List.take_length] at hI
  refine sR1 Int.lt_irrefl q2nx ?_
  refine AWp.stop rfl ?_
  simp only [thenA,blockA,if_true]
  refine u1 _ _ ?_
  refine sR q2nx ?_
  rw [idxF_none hI]
  exact aR
 ·intro j _ x hd hmem dp tk hlt hI
  refine sR1 hlt q2nx ?_
  refine AWp.goOn rfl ?_
  refine sK fun K2 u2=>?_
  refine AWp.block ?_
  refine sR q2nx ?_
  (refine sV q2nx fun K z=>?_;refine ci (deR_get hd) ?_;refine⟨_,opQ_callFn rfl (hs x hmem) rfl,?_⟩;(try refine ev ?_);apply z;clear z K)
  refine AWp.cond rfl (fun hc=>?_) (fun hc=>?_)
  ·refine sR q2nx ?_
   rw [idxF_some hd hc hI]
   exact aR
  ·refine AWp.skip (u2 _ _ ?_)
   clear u2 K2
   refine lT q2nx ?_
   refine⟨(),?_,sS,sB⟩
   rw [tk]
   intro y hy
   rcases List.mem_append.1 hy with hy | hy
   ·exact hI y hy
   ·simp only [List.mem_cons,List.not_mem_nil,or_false] at hy
    rw [hy];exact hc
theorem ok_AnyD (f:FuncId)(ys:List D)(p:Decl→Bool)(l:List Decl)(hl:l.length≤sm)(hs:∀ t,t∈l→FnOK prog (.cl f ys) [deV t] (.d (.bool (p t)))) :
  CallOK prog 117 [.d (.slice (deR l)),.d (.cl f ys)] (boolV (l.any p)):=by
 have hi:=ok_IdxD f ys p l hl hs
 rw [← idxF_any]
 generalize idxF p l=k at *
 refine cB func117 ?_
 refine sR [0,1,4] ?_
 refine sC hi [0,1,4] ?_
 exact aR
abbrev q3nx:List Nat:=[0,1,4,5,7,8,9,16]
theorem ok_IdxP (f:FuncId)(ys:List D)(p:Param→Bool)(l:List Param)(hl:l.length≤sm)(hs:∀ t,t∈l→FnOK prog (.cl f ys) [paV t] (.d (.bool (p t)))) :
  CallOK prog 252 [.d (.slice (paR l)),.d (.cl f ys)] (intV (idxF p l)):=by
 refine cB func252 ?_
 refine sR q3nx ?_
 refine kR q3nx fun K1 u1=>?_
 refine AWp.block (AWp.forIdx l (X:=Unit) (fun j _=>[(0,.d (.slice (paR l))),(1,.d (.cl f ys)),(7,intV l.length),(8,intV j)]) (fun _ _=>[])
  (fun j _=>∀ y,y∈l.take j→p y=false) () (by simp) sS sB ?_ ?_)
 ·intro _ hI
  rw [List.take_length] at hI
  refine sR1 Int.lt_irrefl q3nx ?_
  refine AWp.stop rfl ?_
  simp only [thenA,blockA,if_true]
  refine u1 _ _ ?_
  refine sR q3nx ?_
  rw [idxF_none hI]
  exact aR
 ·intro j _ x hd hmem dp tk hlt hI
  refine sR1 hlt q3nx ?_
  refine AWp.goOn rfl ?_
  refine sK fun K2 u2=>?_
  refine AWp.block ?_
  refine sR q3nx ?_
  (refine sV q3nx fun K z=>?_;refine ci (paR_get hd) ?_;refine⟨_,opQ_callFn rfl (hs x hmem) rfl,?_⟩;(try refine ev ?_);apply z;clear z K)
  refine AWp.cond rfl (fun hc=>?_) (fun hc=>?_)
  ·refine sR q3nx ?_
   rw [idxF_some hd hc hI]
   exact aR
  ·refine AWp.skip (u2 _ _ ?_)
   clear u2 K2
   refine lT q3nx ?_
   refine⟨(),?_,sS,sB⟩
   rw [tk]
   intro y hy
   rcases List.mem_append.1 hy with hy | hy
   ·exact hI y hy
   ·simp only [List.mem_cons,List.not_mem_nil,or_false] at hy
    rw [hy];exact hc
theorem ok_AnyP (f:FuncId)(ys:List D)(p:Param→Bool)(l:List Param)(hl:l.length≤sm)(hs:∀ t,t∈l→FnOK prog (.cl f ys) [paV t] (.d (.bool (p t)))) :
  CallOK prog 279 [.d (.slice (paR l)),.d (.cl f ys)] (boolV (l.any p)):=by
 have hi:=ok_IdxP f ys p l hl hs
 rw [← idxF_any]
 generalize idxF p l=k at *
 refine cB func279 ?_
 refine sR [0,1,4] ?_
 refine sC hi [0,1,4] ?_
 exact aR
abbrev q4nx:List Nat:=[0,1,4,5,7,8,9,16]
theorem ok_IdxS (f:FuncId)(ys:List D)(p:Sig→Bool)(l:List Sig)(hl:l.length≤sm)(hs:∀ t,t∈l→FnOK prog (.cl f ys) [siV t] (.d (.bool (p t)))) :
  CallOK prog 169 [.d (.slice (siR l)),.d (.cl f ys)] (intV (idxF p l)):=by
 refine cB func169 ?_
 refine sR q4nx ?_
 refine kR q4nx fun K1 u1=>?_
 refine AWp.block (AWp.forIdx l (X:=Unit) (fun j _=>[(0,.d (.slice (siR l))),(1,.d (.cl f ys)),(7,intV l.length),(8,intV j)]) (fun _ _=>[])
  (fun j _=>∀ y,y∈l.take j→p y=false) () (by simp) sS sB ?_ ?_)
 ·intro _ hI
  rw [List.take_length] at hI
  refine sR1 Int.lt_irrefl q4nx ?_
  refine AWp.stop rfl ?_
  simp only [thenA,blockA,if_true]
  refine u1 _ _ ?_
  refine sR q4nx ?_
  rw [idxF_none hI]
  exact aR
 ·intro j _ x hd hmem dp tk hlt hI
  refine sR1 hlt q4nx ?_
  refine AWp.goOn rfl ?_
  refine sK fun K2 u2=>?_
  refine AWp.block ?_
  refine sR q4nx ?_
  (refine sV q4nx fun K z=>?_;refine ci (siR_get hd) ?_;refine⟨_,opQ_callFn rfl (hs x hmem) rfl,?_⟩;(try refine ev ?_);apply z;clear z K)
  refine AWp.cond rfl (fun hc=>?_) (fun hc=>?_)
  ·refine sR q4nx ?_
   rw [idxF_some hd hc hI]
   exact aR
  ·refine AWp.skip (u2 _ _ ?_)
   clear u2 K2
   refine lT q4nx ?_
   refine⟨(),?_,sS,sB⟩
   rw [tk]
   intro y hy
   rcases List.mem_append.1 hy with hy | hy
   ·exact hI y hy
   ·simp only [List.mem_cons,List.not_mem_nil,or_false] at hy
    rw [hy];exact hc
theorem ok_AnyS (f:FuncId)(ys:List D)(p:Sig→Bool)(l:List Sig)(hl:l.length≤sm)(hs:∀ t,t∈l→FnOK prog (.cl f ys) [siV t] (.d (.bool (p t)))) :
  CallOK prog 119 [.d (.slice (siR l)),.d (.cl f ys)] (boolV (l.any p)):=by
 have hi:=ok_IdxS f ys p l hl hs
 rw [← idxF_any]
 generalize idxF p l=k at *
 refine cB func119 ?_
 refine sR [0,1,4] ?_
 refine sC hi [0,1,4] ?_
 exact aR
abbrev errV (o:Option Int):SV:=.d (errD 4 o)
def whenO (b:Bool)(n:Int):Option Int:=if b=true then some n else none
theorem ok_when (b:Bool)(n:Int):CallOK prog 123 [boolV b,intV n] (errV (whenO b n)):=by
 have hf:=ok_faultNew 4 n
 unfold whenO
 cases b with
 | false =>
  simp only [Bool.false_eq_true,if_false,errV,errD]
  refine cB func123 ?_
  refine sR [0,1,4,6] ?_
  refine kR [0,1,4,6] fun K1 u1=>?_
  refine tI ?_
  refine sR [0,1,4,6] ?_
  exact aR
 | true =>
  simp only [if_true,errV]
  simp only [errD] at hf ⊢
  refine cB func123 ?_
  refine sR [0,1,4,6] ?_
  refine kR [0,1,4,6] fun K1 u1=>?_
  refine kI u1 ?_
  clear u1 K1
  refine sC hf [0,1,4,6] ?_
  exact aR
def firstO:List (Option Int)→Option Int
 | []=>none
 | some q::_=>some q
 | none::r=>firstO r
theorem firstO_none:∀ {l:List (Option Int)},(∀ y,y∈l→y=none)→firstO l=none
 | [],_=>rfl
 | x::l,h=>by rw [h x (by simp),firstO];exact firstO_none fun y hy=>h y (by simp [hy])
theorem firstO_some:∀ {l:List (Option Int)} {j:Nat} {q:Int},l[j]? = some (some q)→(∀ y,y∈l.take j→y=none)→firstO l=some q
 | x::l,0,q,h,_=>by simp only [List.getElem?_cons_zero,Option.some.injEq] at h;rw [h,firstO]
 | x::l,j+1,q,h,ht=>by
  rw [ht x (by simp),firstO]
  exact firstO_some (by simpa using h) fun y hy=>ht y (by simp [hy])
abbrev fnR (l:List (D × Option Int)):List (List D):=l.map fun x=>[x.1]
theorem fnR_get {l:List (D × Option Int)} {j:Nat} {x:D × Option Int} (h:l[j]? = some x):(fnR l)[(Int.toNat j)]? = some [x.1]:=by simp [h]
abbrev q5nx:List Nat:=[0,2,4,5,6,7,8,9,15]
theorem ok_dfirst (l:List (D × Option Int))(hl:l.length≤sm)(hs:∀ x,x∈l→FnOK prog x.1 [] (errV x.2)):CallOK prog 176 [.d (.slice (fnR l))] (errV (firstO (l.map (·.2)))):=by
 refine cB func176 ?_
 refine sR q5nx ?_
 refine kR q5nx fun K1 u1=>?_
 refine AWp.block (AWp.forIdx l (X:=Unit) (fun j _=>[(6,.d (.slice (fnR l))),(7,intV l.length),(8,intV j)]) (fun _ _=>[])
  (fun j _=>∀ y,y∈l.take j→y.2=none) () (by simp) sS sB ?_ ?_)
 ·intro _ hI
  rw [List.take_length] at hI
  refine sR1 Int.lt_irrefl q5nx ?_
  refine AWp.stop rfl ?_
  simp only [thenA,blockA,if_true]
  refine u1 _ _ ?_
  refine sR q5nx ?_
  rw [firstO_none (by intro y hy;obtain⟨z,hz,rfl⟩:=List.mem_map.1 hy;exact hI z hz)]
  exact aR
 ·intro j _ x hd hmem dp tk hlt hI
  obtain⟨d,o⟩:=x
  have hx:=hs _ hmem
  simp only at hx
  refine sR1 hlt q5nx ?_
  refine AWp.goOn rfl ?_
  refine sK fun K2 u2=>?_
  refine AWp.block ?_
  (refine sV q5nx fun K z=>?_;refine ci (fnR_get hd) ?_;apply z;clear z K)
  cases o with
  | none =>
   simp only [errV,errD] at hx
   (refine sV q5nx fun K z=>?_;refine⟨_,opQ_callFn rfl hx rfl,?_⟩;(try refine ev ?_);apply z;clear z K)
   refine sR q5nx ?_
   refine AWp.condF rfl (AWp.skip (u2 _ _ ?_))
   clear u2 K2
   refine lT q5nx ?_
   refine⟨(),?_,sS,sB⟩
   rw [tk]
   intro y hy
   rcases List.mem_append.1 hy with hy | hy
   ·exact hI y hy
   ·simp only [List.mem_cons,List.not_mem_nil,or_false] at hy
    rw [hy]
  | some q =>
   simp only [errV,errD] at hx
   (refine sV q5nx fun K z=>?_;refine⟨_,opQ_callFn rfl hx rfl,?_⟩;(try refine ev ?_);apply z;clear z K)
   refine sR q5nx ?_
   refine AWp.condT rfl ?_
   refine sR q5nx ?_
   rw [firstO_some (j:=j) (q:=q) (by rw [List.getElem?_map,hd];rfl) (by intro y hy;rw [← List.map_take] at hy;obtain⟨z,hz,rfl⟩:=List.mem_map.1 hy;exact hI z hz)]
   exact aR
abbrev eachD (n:Int)(d:D):D:=.cl 239 [.ptr [.int .i64 n],.ptr [d]]
theorem ok_each (n:Int)(f:FuncId)(ys:List D):CallOK prog 172 [intV n,.d (.cl f ys)] (.d (eachD n (.cl f ys))):=by
 refine cB func172 ?_
 refine sR [0,1,2,3,4] ?_
 (refine AWp.freeze 2 rfl rfl ?_;refine AWp.freeze 3 rfl rfl (wk [(2,.dptr [.int .i64 n] 0),(3,.dptr [.cl f ys] 0)] [] ?_))
 (refine AWp.seqR [0,1,2,3,4] [800005] (by decide +kernel) fun K z=>?_;refine ev ?_;refine⟨_,opQ_cl (xs:=[.dptr [.int .i64 n] 0,.dptr [.cl f ys] 0]) (ys:=[.ptr [.int .i64 n],.ptr [.cl f ys]]) ⟨⟨rfl,rfl⟩,⟨rfl,rfl⟩,trivial⟩ rfl,?_⟩;(try refine ev ?_);apply z;clear z K)
 exact aR
abbrev q6nx:List Nat:=[0,1,2,3,4,5,6,7,13]
theorem ok_each1 (f:FuncId)(ys:List D)(l:List (Option Int))(hl:l.length≤sm)(hs:∀ (j:Nat)(x:Option Int),l[j]? = some x→FnOK prog (.cl f ys) [intV j] (errV x)) :
  CallOK prog 239 [.dptr [.int .i64 l.length] 0,.dptr [.cl f ys] 0] (errV (firstO l)):=by
 refine cB func239 ?_
 refine sR q6nx ?_
 refine kR q6nx fun K1 u1=>?_
 refine AWp.block (AWp.forIdx l (X:=Unit) (fun j _=>[(1,.dptr [.cl f ys] 0),(5,intV l.length),(6,intV j)]) (fun _ _=>[])
  (fun j _=>∀ y,y∈l.take j→y=none) () (by simp) sS sB ?_ ?_)
 ·intro _ hI
  rw [List.take_length] at hI
  refine sR1 Int.lt_irrefl q6nx ?_
  refine AWp.stop rfl ?_
  simp only [thenA,blockA,if_true]
  refine u1 _ _ ?_
  refine sR q6nx ?_
  rw [firstO_none hI]
  exact aR
 ·intro j _ x hd hmem dp tk hlt hI
  have hx:=hs j x hd
  refine sR1 hlt q6nx ?_
  refine AWp.goOn rfl ?_
  refine sK fun K2 u2=>?_
  refine AWp.block ?_
  refine sR q6nx ?_
  cases x with
  | none =>
   simp only [errV,errD] at hx
   (refine sV q6nx fun K z=>?_;refine⟨_,opQ_callFn rfl hx rfl,?_⟩;(try refine ev ?_);apply z;clear z K)
   refine sR q6nx ?_
   refine AWp.condF rfl (AWp.skip (u2 _ _ ?_))
   clear u2 K2
   refine lT q6nx ?_
   refine⟨(),?_,sS,sB⟩
   rw [tk]
   intro y hy
   rcases List.mem_append.1 hy with hy | hy
   ·exact hI y hy
   ·simp only [List.mem_cons,List.not_mem_nil,or_false] at hy
    rw [hy]
  | some q =>
   simp only [errV,errD] at hx
   (refine sV q6nx fun K z=>?_;refine⟨_,opQ_callFn rfl hx rfl,?_⟩;(try refine ev ?_);apply z;clear z K)
   refine sR q6nx ?_
   refine AWp.condT rfl ?_
   refine sR q6nx ?_
   rw [firstO_some hd hI]
   exact aR
theorem fn_each (f:FuncId)(ys:List D)(l:List (Option Int))(n:Int)(hn:n=l.length)(hl:l.length≤sm)(hs:∀ (j:Nat)(x:Option Int),l[j]? = some x→FnOK prog (.cl f ys) [intV j] (errV x)) :
  FnOK prog (eachD n (.cl f ys)) [] (errV (firstO l)):=by
 subst hn
 exact⟨_,[.dptr [.int .i64 l.length] 0,.dptr [.cl f ys] 0],_,_,rfl,⟨⟨rfl,rfl⟩,⟨rfl,rfl⟩,trivial⟩,rfl,ok_each1 f ys l hl hs⟩
theorem co_err (bx:Boxes)(o:Option Int):coerce bx (wrapRes [errV o])=some (errV o):=by cases o <;> rfl
abbrev tabP (p:Prog):D:=.ptr (tabC p)
theorem ok_nm_doubleP (x:Param):CallOK prog 249 [paV x] (strV x.name):=by
 refine cB func249 ?_
 refine sR [0,1,2] ?_
 refine sR [0,1,2] ?_
 exact aR
theorem ok_1_doubleP (l:List Param)(j:Nat)(d:Param)(hd:l[j]? = some d)(x:Param) :
  CallOK prog 280 [paV x,.dptr [.cl 249 []] 0,.dptr [.slice (paR l)] 0,.dptr [.int .i64 j] 0] (boolV (decide (x.name=d.name))):=by
 have hx:FnOK prog (.cl 249 []) [paV x] (strV x.name):=⟨_,[],[],_,rfl,trivial,rfl,ok_nm_doubleP x⟩
 have hy:FnOK prog (.cl 249 []) [paV d] (strV d.name):=⟨_,[],[],_,rfl,trivial,rfl,ok_nm_doubleP d⟩
 refine cB func280 ?_
 refine sR [0,1,2,3,4,5] ?_
 (refine sG [0,1,2,3,4,5] [] 8 [] fun K z=>?_;refine ev ?_;refine⟨_,opQ_callFn rfl hx rfl,?_⟩;(try refine ev ?_);refine ci (paR_get hd) ?_;refine⟨_,opQ_callFn rfl hy rfl,?_⟩;(try refine ev ?_);apply z;clear z K)
 exact aR
theorem ok_doubleP (l:List Param)(hl:l.length≤sm)(j:Nat)(d:Param)(hd:l[j]? = some d) :
  CallOK prog 248 [.d (.slice (paR l)),intV j,.clo 249 []] (boolV (decide (d.name∈(l.take j).map (·.name)))):=by
 have hj:=(List.getElem?_eq_some_iff.1 hd).1
 have hA:CallOK prog 279 [.d (.slice ((paR l).take j)),.d (.cl 280 [.ptr [.cl 249 []],.ptr [.slice (paR l)],.ptr [.int .i64 j]])] (boolV ((l.take j).any fun x=>decide (x.name=d.name))):=by
  rw [show (paR l).take j=paR (l.take j) by simp [paR,List.map_take]]
  exact ok_AnyP _ _ _ _ (by rw [List.length_take];omega) fun x hx=>⟨_,[.dptr [.cl 249 []] 0,.dptr [.slice (paR l)] 0,.dptr [.int .i64 j] 0],_,_,rfl,⟨⟨rfl,rfl⟩,⟨rfl,rfl⟩,⟨rfl,rfl⟩,trivial⟩,rfl,ok_1_doubleP l j d hd x⟩
 have e:(l.take j).any (fun x=>decide (x.name=d.name))=decide (d.name∈(l.take j).map (·.name)):=by
  rw [Bool.eq_iff_iff,List.any_eq_true]
  simp only [decide_eq_true_eq,List.mem_map]
 rw [e] at hA
 refine cB func248 ?_
 refine sR [0,1,2,3,4,5,6] ?_
 refine AWp.freezeP 5 rfl rfl ?_
 (refine AWp.freeze 3 rfl rfl ?_;refine AWp.freeze 4 rfl rfl (wk [(3,.dptr [.slice (paR l)] 0),(4,.dptr [.int .i64 j] 0),(5,.dptr [.cl 249 []] 0)] [] ?_))
 (refine AWp.seqR [0,1,2,3,4,5,6] [800010] (by decide +kernel) fun K z=>?_;refine ev ?_;refine⟨paR_row _,by omega,by omega,?_⟩;(try refine ev ?_);refine⟨_,opQ_cl (xs:=[.dptr [.cl 249 []] 0,.dptr [.slice (paR l)] 0,.dptr [.int .i64 j] 0]) (ys:=[.ptr [.cl 249 []],.ptr [.slice (paR l)],.ptr [.int .i64 j]]) ⟨⟨rfl,rfl⟩,⟨rfl,rfl⟩,⟨rfl,rfl⟩,trivial⟩ rfl,?_⟩;(try refine ev ?_);refine cc hA ?_;apply z;clear z K)
 exact aR
theorem ok_nm_doubleS (x:Sig):CallOK prog 193 [siV x] (strV x.name):=by
 refine cB func193 ?_
 refine sR [0,1,2] ?_
 refine sR [0,1,2] ?_
 exact aR
theorem ok_1_doubleS (l:List Sig)(j:Nat)(d:Sig)(hd:l[j]? = some d)(x:Sig) :
  CallOK prog 250 [siV x,.dptr [.cl 193 []] 0,.dptr [.slice (siR l)] 0,.dptr [.int .i64 j] 0] (boolV (decide (x.name=d.name))):=by
 have hx:FnOK prog (.cl 193 []) [siV x] (strV x.name):=⟨_,[],[],_,rfl,trivial,rfl,ok_nm_doubleS x⟩
 have hy:FnOK prog (.cl 193 []) [siV d] (strV d.name):=⟨_,[],[],_,rfl,trivial,rfl,ok_nm_doubleS d⟩
 refine cB func250 ?_
 refine sR [0,1,2,3,4,5] ?_
 (refine sG [0,1,2,3,4,5] [] 8 [] fun K z=>?_;refine ev ?_;refine⟨_,opQ_callFn rfl hx rfl,?_⟩;(try refine ev ?_);refine ci (siR_get hd) ?_;refine⟨_,opQ_callFn rfl hy rfl,?_⟩;(try refine ev ?_);apply z;clear z K)
 exact aR
theorem ok_doubleS (l:List Sig)(hl:l.length≤sm)(j:Nat)(d:Sig)(hd:l[j]? = some d) :
  CallOK prog 192 [.d (.slice (siR l)),intV j,.clo 193 []] (boolV (decide (d.name∈(l.take j).map (·.name)))):=by
 have hj:=(List.getElem?_eq_some_iff.1 hd).1
 have hA:CallOK prog 119 [.d (.slice ((siR l).take j)),.d (.cl 250 [.ptr [.cl 193 []],.ptr [.slice (siR l)],.ptr [.int .i64 j]])] (boolV ((l.take j).any fun x=>decide (x.name=d.name))):=by
  rw [show (siR l).take j=siR (l.take j) by simp [siR,List.map_take]]
  exact ok_AnyS _ _ _ _ (by rw [List.length_take];omega) fun x hx=>⟨_,[.dptr [.cl 193 []] 0,.dptr [.slice (siR l)] 0,.dptr [.int .i64 j] 0],_,_,rfl,⟨⟨rfl,rfl⟩,⟨rfl,rfl⟩,⟨rfl,rfl⟩,trivial⟩,rfl,ok_1_doubleS l j d hd x⟩
 have e:(l.take j).any (fun x=>decide (x.name=d.name))=decide (d.name∈(l.take j).map (·.name)):=by
  rw [Bool.eq_iff_iff,List.any_eq_true]
  simp only [decide_eq_true_eq,List.mem_map]
 rw [e] at hA
 refine cB func192 ?_
 refine sR [0,1,2,3,4,5,6] ?_
 refine AWp.freezeP 5 rfl rfl ?_
 (refine AWp.freeze 3 rfl rfl ?_;refine AWp.freeze 4 rfl rfl (wk [(3,.dptr [.slice (siR l)] 0),(4,.dptr [.int .i64 j] 0),(5,.dptr [.cl 193 []] 0)] [] ?_))
 (refine AWp.seqR [0,1,2,3,4,5,6] [800010] (by decide +kernel) fun K z=>?_;refine ev ?_;refine⟨siR_row _,by omega,by omega,?_⟩;(try refine ev ?_);refine⟨_,opQ_cl (xs:=[.dptr [.cl 193 []] 0,.dptr [.slice (siR l)] 0,.dptr [.int .i64 j] 0]) (ys:=[.ptr [.cl 193 []],.ptr [.slice (siR l)],.ptr [.int .i64 j]]) ⟨⟨rfl,rfl⟩,⟨rfl,rfl⟩,⟨rfl,rfl⟩,trivial⟩ rfl,?_⟩;(try refine ev ?_);refine cc hA ?_;apply z;clear z K)
 exact aR
def par1 (p:Prog)(env:List Formal)(l:List Param)(j:Nat)(d:Param):Option Int:=if d.name∈(l.take j).map (·.name) then some d.pos else chk p env d.type
abbrev q1xx:List Nat:=[0,1,2,3,5,8]
theorem ok_params1 (p:Prog)(h:p.Sm)(env:List Formal)(hel:env.length≤sm)(he:∀ f,f∈env→f.Sm)(l:List Param)(hll:l.length≤sm)(hl:∀ f,f∈l→f.Sm)(j:Nat)(d:Param)(hd:l[j]? = some d) :
  CallOK prog 247 [intV j,.dptr [.slice (paR l)] 0,.dptr [tabP p] 0,.dptr [.slice (foR env)] 0] (errV (par1 p env l j d)):=by
 have hc:=ok_CCheck p h env hel he d.type (hl d (List.mem_of_getElem? hd)).type
 have hdb:=ok_doubleP l hll j d hd
 have hw:=ok_when true d.pos
 unfold par1
 by_cases hm:d.name∈(l.take j).map (·.name)
 ·rw [if_pos hm]
  rw [decide_eq_true hm] at hdb
  simp only [whenO,if_true,errV,errD] at hw ⊢
  refine cB func247 ?_
  refine sR q1xx ?_
  refine kC hdb q1xx fun K1 u1=>?_
  refine tI ?_
  (refine sV q1xx fun K z=>?_;refine ci (paR_get hd) ?_;refine cc hw ?_;apply z;clear z K)
  exact aR
 ·rw [if_neg hm]
  rw [decide_eq_false hm] at hdb
  generalize chk p env d.type=o at *
  refine cB func247 ?_
  refine sR q1xx ?_
  refine kC hdb q1xx fun K1 u1=>?_
  refine kI u1 ?_
  clear u1 K1
  (refine sG q1xx [] 7 [] fun K z=>?_;refine ev ?_;refine ci (paR_get hd) ?_;refine cc hc.ptr ?_;apply z;clear z K)
  exact AWp.ret ⟨_,by rw [results247];rfl,co_err _ _⟩
abbrev parsD (p:Prog)(env:List Formal)(l:List Param):D:=eachD l.length (.cl 247 [.ptr [.slice (paR l)],.ptr [tabP p],.ptr [.slice (foR env)]])
theorem ok_params (p:Prog)(env:List Formal)(l:List Param)(hl:l.length≤sm):CallOK prog 190 [.dptr (tabC p) 0,.d (.slice (foR env)),.d (.slice (paR l))] (.d (parsD p env l)):=by
 have hE:=ok_each l.length 247 [.ptr [.slice (paR l)],.ptr [tabP p],.ptr [.slice (foR env)]]
 refine cB func190 ?_
 refine sR [0,1,2,3,4,5,6] ?_
 refine AWp.freezeP 3 rfl rfl ?_
 (refine AWp.freeze 4 rfl rfl ?_;refine AWp.freeze 5 rfl rfl (wk [(3,.dptr [tabP p] 0),(4,.dptr [.slice (foR env)] 0),(5,.dptr [.slice (paR l)] 0)] [] ?_))
 (refine AWp.seqR [0,1,2,3,4,5,6] [800009] (by decide +kernel) fun K z=>?_;refine ev ?_;refine⟨_,opQ_cl (xs:=[.dptr [.slice (paR l)] 0,.dptr [tabP p] 0,.dptr [.slice (foR env)] 0]) (ys:=[.ptr [.slice (paR l)],.ptr [tabP p],.ptr [.slice (foR env)]]) ⟨⟨rfl,rfl⟩,⟨rfl,rfl⟩,⟨rfl,rfl⟩,trivial⟩ rfl,?_⟩;(try refine ev ?_);refine cc hE ?_;apply z;clear z K)
 exact aR
theorem first_params (p:Prog)(env:List Formal):∀ (l:List Param)(pre:List Str),firstO (l.mapIdx fun j d=>if d.name∈pre++(l.take j).map (·.name) then some d.pos else chk p env d.type)=parR p env pre l
 | [],_=>rfl
 | x::l,pre=>by
  rw [List.mapIdx_cons,parR]
  simp only [List.take_zero,List.map_nil,List.append_nil,List.take_succ_cons,List.map_cons]
  have ih:=first_params p env l (pre++[x.name])
  simp only [List.append_assoc,List.singleton_append] at ih
  by_cases hm:x.name∈pre
  ·rw [if_pos hm,if_pos hm,firstO]
  ·rw [if_neg hm,if_neg hm]
   cases hc:chk p env x.type with
   | some q=>rw [firstO]
   | none=>rw [firstO];exact ih
theorem fn_params (p:Prog)(h:p.Sm)(env:List Formal)(hel:env.length≤sm)(he:∀ f,f∈env→f.Sm)(l:List Param)(hll:l.length≤sm)(hl:∀ f,f∈l→f.Sm) :
  FnOK prog (parsD p env l) [] (errV (parR p env [] l)):=by
 rw [← first_params p env l []]
 refine fn_each _ _ _ _ (by simp) (by simpa using hll) fun j x hx=>?_
 rw [List.getElem?_mapIdx,Option.map_eq_some_iff] at hx
 obtain⟨d,hd,rfl⟩:=hx
 rw [List.nil_append]
 exact⟨_,[.dptr [.slice (paR l)] 0,.dptr [tabP p] 0,.dptr [.slice (foR env)] 0],_,_,rfl,⟨⟨rfl,rfl⟩,⟨rfl,rfl⟩,⟨rfl,rfl⟩,trivial⟩,rfl,ok_params1 p h env hel he l hll hl j d hd⟩
def fresh1 (p:Prog)(env l:List Formal)(j:Nat)(d:Formal):Option Int:=if kindOf p d.name≠0∨d.name∈fnames (env++l.take j) then some d.pos else none
abbrev q2xx:List Nat:=[0,1,2,3,4,6]
theorem ok_fresh1 (p:Prog)(h:p.Sm)(env l:List Formal)(hll:env.length+l.length≤sm)(j:Nat)(d:Formal)(hd:l[j]? = some d) :
  CallOK prog 243 [intV j,.dptr [tabP p] 0,.dptr [.slice (foR l)] 0,.dptr [.slice (strR (fnames (env++l)))] 0,.dptr [.slice (foR env)] 0] (errV (fresh1 p env l j d)):=by
 have hj:=(List.getElem?_eq_some_iff.1 hd).1
 have hk:=ok_TKind p h d.name
 have hjl:((env.length:Int)+(j:Int)).toNat=env.length+j:=by omega
 have hnl:((fnames (env++l)).length:Int)=env.length+l.length:=by simp [fnames]
 have hin:CallOK prog 175 [.d (.slice ((strR (fnames (env++l))).take ((env.length:Int)+(j:Int)).toNat)),strV d.name] (boolV (decide (d.name∈fnames (env++l.take j)))):=by
  have e:(fnames (env++l)).take (env.length+j)=fnames (env++l.take j):=by
   unfold fnames
   rw [← List.map_take,List.take_length_add_append]
  rw [hjl,show (strR (fnames (env++l))).take (env.length+j)=strR ((fnames (env++l)).take (env.length+j)) by simp [strR,List.map_take],e]
  exact ok_SContains _ (by simp [fnames];omega) _
 unfold fresh1
 by_cases hk0:kindOf p d.name=0
 rotate_left
 ·rw [if_pos (.inl hk0)]
  have hw:=ok_when true d.pos
  simp only [whenO,if_true,errV,errD] at hw ⊢
  refine cB func243 ?_
  refine sR q2xx ?_
  (refine sG q2xx [] 27 [] fun K z=>?_;refine ev ?_;refine ci (foR_get hd) ?_;refine⟨_,.inl ⟨_,rfl,hk.ptr,rfl⟩,?_⟩;(try refine ev1 hk0 ?_);refine ci (foR_get hd) ?_;refine⟨_,.inl ⟨_,rfl,hw,rfl⟩,?_⟩;(try refine ev1 hk0 ?_);apply z;clear z K)
  exact aR
 by_cases hm:d.name∈fnames (env++l.take j)
 ·rw [if_pos (.inr hm)]
  rw [decide_eq_true hm] at hin
  have hw:=ok_when true d.pos
  simp only [whenO,if_true,errV,errD] at hw ⊢
  refine cB func243 ?_
  refine sR q2xx ?_
  (refine sG q2xx [] 27 [] fun K z=>?_;refine ev ?_;refine ci (foR_get hd) ?_;refine⟨_,.inl ⟨_,rfl,hk.ptr,rfl⟩,?_⟩;(try refine ev1 hk0 ?_);refine⟨by first | (unfold InR;omega) | (simp only [InR,sm] at *;omega),?_⟩;(try refine ev1 hk0 ?_);refine⟨strR_row _,by omega,by omega,?_⟩;(try refine ev1 hk0 ?_);refine ci (foR_get hd) ?_;refine cc hin ?_;refine ci (foR_get hd) ?_;refine⟨_,.inl ⟨_,rfl,hw,rfl⟩,?_⟩;(try refine ev1 hk0 ?_);apply z;clear z K)
  exact aR
 ·rw [if_neg (by rintro (a | a);exact a hk0;exact hm a)]
  rw [decide_eq_false hm] at hin
  have hw:=ok_when false d.pos
  simp only [whenO,Bool.false_eq_true,if_false,errV,errD] at hw ⊢
  refine cB func243 ?_
  refine sR q2xx ?_
  (refine sG q2xx [] 27 [] fun K z=>?_;refine ev ?_;refine ci (foR_get hd) ?_;refine⟨_,.inl ⟨_,rfl,hk.ptr,rfl⟩,?_⟩;(try refine ev1 hk0 ?_);refine⟨by first | (unfold InR;omega) | (simp only [InR,sm] at *;omega),?_⟩;(try refine ev1 hk0 ?_);refine⟨strR_row _,by omega,by omega,?_⟩;(try refine ev1 hk0 ?_);refine ci (foR_get hd) ?_;refine cc hin ?_;refine ci (foR_get hd) ?_;refine⟨_,.inl ⟨_,rfl,hw,rfl⟩,?_⟩;(try refine ev1 hk0 ?_);apply z;clear z K)
  exact aR
def bound1 (p:Prog)(all:List Formal)(d:Formal):Option Int:=match chk p all d.bound with
 | some q=>some q
 | none=>if isIface p all d.bound=true then none else some d.bound.pos
abbrev q3xx:List Nat:=[0,1,2,3,5,6,7,18]
theorem ok_bound1 (p:Prog)(h:p.Sm)(all l:List Formal)(hal:all.length≤sm)(ha:∀ f,f∈all→f.Sm)(hl:∀ f,f∈l→f.Sm)(j:Nat)(d:Formal)(hd:l[j]? = some d) :
  CallOK prog 244 [intV j,.dptr [.slice (foR l)] 0,.dptr [tabP p] 0,.dptr [.slice (foR all)] 0] (errV (bound1 p all d)):=by
 have hb:=(hl d (List.mem_of_getElem? hd)).bound
 have hc:=ok_CCheck p h all hal ha d.bound hb
 have hi:=ok_IsInterface p h all hal ha d.bound hb
 unfold bound1
 generalize chk p all d.bound=o at *
 generalize isIface p all d.bound=b at *
 cases o with
 | some q =>
  simp only [errV,errD] at hc ⊢
  refine cB func244 ?_
  refine sR q3xx ?_
  (refine sV q3xx fun K z=>?_;refine ci (foR_get hd) ?_;apply z;clear z K)
  refine kC hc.ptr q3xx fun K1 u1=>?_
  refine sR q3xx ?_
  refine tI ?_
  refine sR q3xx ?_
  exact aR
 | none =>
  simp only [errD] at hc
  cases b with
  | true =>
   have hw:=ok_when false d.bound.pos
   simp only [whenO,Bool.false_eq_true,if_false,if_true,errV,errD] at hw ⊢
   refine cB func244 ?_
   refine sR q3xx ?_
   (refine sV q3xx fun K z=>?_;refine ci (foR_get hd) ?_;apply z;clear z K)
   refine kC hc.ptr q3xx fun K1 u1=>?_
   refine sR q3xx ?_
   refine kI u1 ?_
   clear u1 K1
   (refine sG q3xx [] 7 [] fun K z=>?_;refine ev ?_;refine cc hi.ptr ?_;refine cc hw ?_;apply z;clear z K)
   exact aR
  | false =>
   have hw:=ok_when true d.bound.pos
   simp only [whenO,Bool.false_eq_true,if_false,if_true,errV,errD] at hw ⊢
   refine cB func244 ?_
   refine sR q3xx ?_
   (refine sV q3xx fun K z=>?_;refine ci (foR_get hd) ?_;apply z;clear z K)
   refine kC hc.ptr q3xx fun K1 u1=>?_
   refine sR q3xx ?_
   refine kI u1 ?_
   clear u1 K1
   (refine sG q3xx [] 7 [] fun K z=>?_;refine ev ?_;refine cc hi.ptr ?_;refine cc hw ?_;apply z;clear z K)
   exact aR
theorem first_fresh (p:Prog):∀ (l env:List Formal),firstO (l.mapIdx fun j d=>fresh1 p env l j d)=freshR p env l
 | [],_=>rfl
 | x::l,env=>by
  rw [List.mapIdx_cons,freshR]
  have ih:=first_fresh p l (env++[x])
  unfold fresh1 at ih ⊢
  simp only [List.append_assoc,List.singleton_append] at ih
  simp only [List.take_zero,List.append_nil,List.take_succ_cons]
  by_cases hc:kindOf p x.name≠0∨x.name∈fnames env
  ·rw [if_pos hc,if_pos hc,firstO]
  ·rw [if_neg hc,if_neg hc,firstO];exact ih
theorem first_bound (p:Prog)(all:List Formal):∀ l:List Formal,firstO (l.mapIdx fun _ d=>bound1 p all d)=boundR p all l
 | []=>rfl
 | x::l=>by
  rw [List.mapIdx_cons,boundR]
  have ih:=first_bound p all l
  unfold bound1 at ih ⊢
  cases chk p all x.bound with
  | some q=>simp only;rw [firstO]
  | none =>
   simp only
   split
   ·rw [firstO];exact ih
   ·rw [firstO]
abbrev q4xx:List Nat:=[0,1,2,3,4,5,6,7,8,9,10]
theorem ok_DFormals (p:Prog)(h:p.Sm)(env l:List Formal)(hll:env.length+l.length≤sm)(he:∀ f,f∈env→f.Sm)(hl:∀ f,f∈l→f.Sm) :
  CallOK prog 187 [.dptr (tabC p) 0,.d (.slice (foR env)),.d (.slice (foR l))] (errV (formalsR p env l)):=by
 have hall:∀ f,f∈env++l→f.Sm:=fun f hf=>by
  rcases List.mem_append.1 hf with h | h
  ·exact he f h
  ·exact hl f h
 have hal:(env++l).length≤sm:=by rw [List.length_append];exact hll
 have hj:=ok_Join env l (by omega) (by omega) he hl
 have hn:=ok_Names (env++l) hal
 have hE1:=ok_each l.length 243 [.ptr [tabP p],.ptr [.slice (foR l)],.ptr [.slice (strR (fnames (env++l)))],.ptr [.slice (foR env)]]
 have hE2:=ok_each l.length 244 [.ptr [.slice (foR l)],.ptr [tabP p],.ptr [.slice (foR (env++l))]]
 have hF1:=fn_each 243 [.ptr [tabP p],.ptr [.slice (foR l)],.ptr [.slice (strR (fnames (env++l)))],.ptr [.slice (foR env)]] (l.mapIdx fun j d=>fresh1 p env l j d) l.length (by simp) (by simp;omega) fun j x hx=>by
  rw [List.getElem?_mapIdx,Option.map_eq_some_iff] at hx
  obtain⟨d,hd,rfl⟩:=hx
  exact⟨_,[.dptr [tabP p] 0,.dptr [.slice (foR l)] 0,.dptr [.slice (strR (fnames (env++l)))] 0,.dptr [.slice (foR env)] 0],_,_,rfl,⟨⟨rfl,rfl⟩,⟨rfl,rfl⟩,⟨rfl,rfl⟩,⟨rfl,rfl⟩,trivial⟩,rfl,ok_fresh1 p h env l hll j d hd⟩
 have hF2:=fn_each 244 [.ptr [.slice (foR l)],.ptr [tabP p],.ptr [.slice (foR (env++l))]] (l.mapIdx fun _ d=>bound1 p (env++l) d) l.length (by simp) (by simp;omega) fun j x hx=>by
  rw [List.getElem?_mapIdx,Option.map_eq_some_iff] at hx
  obtain⟨d,hd,rfl⟩:=hx
  exact⟨_,[.dptr [.slice (foR l)] 0,.dptr [tabP p] 0,.dptr [.slice (foR (env++l))] 0],_,_,rfl,⟨⟨rfl,rfl⟩,⟨rfl,rfl⟩,⟨rfl,rfl⟩,trivial⟩,rfl,ok_bound1 p h (env++l) l hal hall hl j d hd⟩
 rw [first_fresh] at hF1
 rw [first_bound] at hF2
 have hR:firstO [freshR p env l,boundR p (env++l) l]=formalsR p env l:=by
  unfold formalsR
  cases freshR p env l with
  | some q=>rfl
  | none=>cases boundR p (env++l) l <;> rfl
 have hF:CallOK prog 176 [.d (.slice [[eachD l.length (.cl 243 [.ptr [tabP p],.ptr [.slice (foR l)],.ptr [.slice (strR (fnames (env++l)))],.ptr [.slice (foR env)]])],[eachD l.length (.cl 244 [.ptr [.slice (foR l)],.ptr [tabP p],.ptr [.slice (foR (env++l))]])]])] (errV (formalsR p env l)):=by
  rw [← hR]
  exact ok_dfirst [(_,freshR p env l),(_,boundR p (env++l) l)] (show 2≤sm by decide) (by
   intro x hx
   simp only [List.mem_cons,List.not_mem_nil,or_false] at hx
   rcases hx with rfl | rfl
   ·exact hF1
   ·exact hF2)
 clear hF1 hF2 hR
 generalize formalsR p env l=R at *
 refine cB func187 ?_
 refine sR q4xx ?_
 refine sC hj q4xx ?_
 refine sC hn q4xx ?_
 refine AWp.freezeP 3 rfl rfl ?_
 (refine AWp.freeze 4 rfl rfl ?_;refine AWp.freeze 5 rfl rfl ?_;refine AWp.freeze 7 rfl rfl ?_;refine AWp.freeze 8 rfl rfl (wk [(3,.dptr [tabP p] 0),(4,.dptr [.slice (foR env)] 0),(5,.dptr [.slice (foR l)] 0),(7,.dptr [.slice (foR (env++l))] 0),(8,.dptr [.slice (strR (fnames (env++l)))] 0)] [] ?_))
 (refine AWp.seqR q4xx [800018] (by decide +kernel) fun K z=>?_;refine ev ?_;refine⟨_,opQ_cl (xs:=[.dptr [tabP p] 0,.dptr [.slice (foR l)] 0,.dptr [.slice (strR (fnames (env++l)))] 0,.dptr [.slice (foR env)] 0]) (ys:=[.ptr [tabP p],.ptr [.slice (foR l)],.ptr [.slice (strR (fnames (env++l)))],.ptr [.slice (foR env)]]) ⟨⟨rfl,rfl⟩,⟨rfl,rfl⟩,⟨rfl,rfl⟩,⟨rfl,rfl⟩,trivial⟩ rfl,?_⟩;(try refine ev ?_);refine cc hE1 ?_;apply z;clear z K)
 (refine AWp.seqR q4xx [800022] (by decide +kernel) fun K z=>?_;refine ev ?_;refine⟨_,opQ_cl (xs:=[.dptr [.slice (foR l)] 0,.dptr [tabP p] 0,.dptr [.slice (foR (env++l))] 0]) (ys:=[.ptr [.slice (foR l)],.ptr [tabP p],.ptr [.slice (foR (env++l))]]) ⟨⟨rfl,rfl⟩,⟨rfl,rfl⟩,⟨rfl,rfl⟩,trivial⟩ rfl,?_⟩;(try refine ev ?_);refine cc hE2 ?_;apply z;clear z K)
 refine sC hF q4xx ?_
 exact AWp.ret ⟨_,by rw [results187];rfl,co_err _ _⟩
theorem ok_DSig1 (p:Prog)(env:List Formal)(s:Sig)(hF:CallOK prog 187 [.dptr (tabC p) 0,.d (.slice (foR env)),.d (.slice (foR s.formals))] (errV (formalsR p env s.formals))) :
  CallOK prog 240 [.dptr [tabP p] 0,.dptr [.slice (foR env)] 0,.dptr (siC s) 0] (errV (formalsR p env s.formals)):=by
 generalize formalsR p env s.formals=R at *
 refine cB func240 ?_
 refine sR [0,1,2,3] ?_
 refine sC hF.ptr [0,1,2,3] ?_
 exact AWp.ret ⟨_,by rw [results240];rfl,co_err _ _⟩
theorem ok_DSig2 (p:Prog)(h:p.Sm)(all:List Formal)(hal:all.length≤sm)(ha:∀ f,f∈all→f.Sm)(s:Sig)(hs:s.Sm) :
  CallOK prog 241 [.dptr [tabP p] 0,.dptr [.slice (foR all)] 0,.dptr (siC s) 0] (errV (chk p all s.result)):=by
 have hc:=ok_CCheck p h all hal ha s.result hs.result
 generalize chk p all s.result=R at *
 refine cB func241 ?_
 refine sR [0,1,2,3] ?_
 refine sC hc.ptr [0,1,2,3] ?_
 exact AWp.ret ⟨_,by rw [results241];rfl,co_err _ _⟩
abbrev q5xx:List Nat:=[0,1,2,3,4,5,6,7,8,9]
theorem ok_DSig (p:Prog)(h:p.Sm)(env:List Formal)(s:Sig)(hll:env.length+s.formals.length≤sm)(he:∀ f,f∈env→f.Sm)(hs:s.Sm) :
  CallOK prog 181 [.dptr (tabC p) 0,.d (.slice (foR env)),siV s] (errV (sigR p env s)):=by
 have hall:∀ f,f∈env++s.formals→f.Sm:=fun f hf=>by
  rcases List.mem_append.1 hf with h | h
  ·exact he f h
  ·exact hs.formals.2 f h
 have hal:(env++s.formals).length≤sm:=by rw [List.length_append];exact hll
 have hj:=ok_Join env s.formals (by omega) (by omega) he hs.formals.2
 have hP:=ok_params p (env++s.formals) s.params hs.params.1
 have h1:FnOK prog (.cl 240 [.ptr [tabP p],.ptr [.slice (foR env)],.ptr (siC s)]) [] (errV (formalsR p env s.formals)) :=
  ⟨_,[.dptr [tabP p] 0,.dptr [.slice (foR env)] 0,.dptr (siC s) 0],_,_,rfl,⟨⟨rfl,rfl⟩,⟨rfl,rfl⟩,⟨rfl,rfl⟩,trivial⟩,rfl,ok_DSig1 p env s (ok_DFormals p h env s.formals hll he hs.formals.2)⟩
 have h2:=fn_params p h (env++s.formals) hal hall s.params hs.params.1 hs.params.2
 have h3:FnOK prog (.cl 241 [.ptr [tabP p],.ptr [.slice (foR (env++s.formals))],.ptr (siC s)]) [] (errV (chk p (env++s.formals) s.result)) :=
  ⟨_,[.dptr [tabP p] 0,.dptr [.slice (foR (env++s.formals))] 0,.dptr (siC s) 0],_,_,rfl,⟨⟨rfl,rfl⟩,⟨rfl,rfl⟩,⟨rfl,rfl⟩,trivial⟩,rfl,ok_DSig2 p h (env++s.formals) hal hall s hs⟩
 have hR:firstO [formalsR p env s.formals,parR p (env++s.formals) [] s.params,chk p (env++s.formals) s.result]=sigR p env s:=by
  unfold sigR
  cases formalsR p env s.formals with
  | some q=>rfl
  | none =>
   cases parR p (env++s.formals) [] s.params with
   | some q=>rfl
   | none=>cases chk p (env++s.formals) s.result <;> rfl
 have hF:CallOK prog 176 [.d (.slice [[.cl 240 [.ptr [tabP p],.ptr [.slice (foR env)],.ptr (siC s)]],[parsD p (env++s.formals) s.params],[.cl 241 [.ptr [tabP p],.ptr [.slice (foR (env++s.formals))],.ptr (siC s)]]])] (errV (sigR p env s)):=by
  rw [← hR]
  exact ok_dfirst [(_,formalsR p env s.formals),(_,parR p (env++s.formals) [] s.params),(_,chk p (env++s.formals) s.result)] (show 3≤sm by decide) (by
   intro x hx
   simp only [List.mem_cons,List.not_mem_nil,or_false] at hx
   rcases hx with rfl | rfl | rfl
   ·exact h1
   ·exact h2
   ·exact h3)
 clear h1 h2 h3 hR
 generalize sigR p env s=R at *
 refine cB func181 ?_
 refine sR q5xx ?_
 refine sC hj q5xx ?_
 refine AWp.freezeP 3 rfl rfl ?_
 (refine AWp.freeze 4 rfl rfl ?_;refine AWp.freeze 5 rfl rfl ?_;refine AWp.freeze 7 rfl rfl (wk [(3,.dptr [tabP p] 0),(4,.dptr [.slice (foR env)] 0),(5,.dptr (siC s) 0),(7,.dptr [.slice (foR (env++s.formals))] 0)] [] ?_))
 (refine AWp.seqR q5xx [800014] (by decide +kernel) fun K z=>?_;refine ev ?_;refine⟨_,opQ_cl (xs:=[.dptr [tabP p] 0,.dptr [.slice (foR env)] 0,.dptr (siC s) 0]) (ys:=[.ptr [tabP p],.ptr [.slice (foR env)],.ptr (siC s)]) ⟨⟨rfl,rfl⟩,⟨rfl,rfl⟩,⟨rfl,rfl⟩,trivial⟩ rfl,?_⟩;(try refine ev ?_);apply z;clear z K)
 (refine AWp.seqR q5xx [800015] (by decide +kernel) fun K z=>?_;refine ev ?_;refine⟨_,opQ_cl (xs:=[.dptr [tabP p] 0,.dptr [.slice (foR (env++s.formals))] 0,.dptr (siC s) 0]) (ys:=[.ptr [tabP p],.ptr [.slice (foR (env++s.formals))],.ptr (siC s)]) ⟨⟨rfl,rfl⟩,⟨rfl,rfl⟩,⟨rfl,rfl⟩,trivial⟩ rfl,?_⟩;(try refine ev ?_);apply z;clear z K)
 (refine sV q5xx fun K z=>?_;refine cc hP.ptr ?_;refine cc hF ?_;apply z;clear z K)
 exact AWp.ret ⟨_,by rw [results181];rfl,co_err _ _⟩
abbrev q1Ex:List Nat:=[0,1,3,4,5,6,7,9,10,11,19,20,21,22,35,36,37]
theorem ok_DEnv (p:Prog)(h:p.Sm)(d:Decl)(hd:d.Sm):CallOK prog 182 [.dptr (tabC p) 0,deV d] (.d (.slice (foR (envR p d)))):=by
 have hfl:=formalsT_Sm h d.name
 have hf:=ok_TFormals p h d.name
 have hnm:=ok_Names (formalsT p d.name) hfl.1
 have hvl:=hd.vars.1
 have hvs:∀ u,u∈varTs d.vars→u.Sm:=by
  intro u hu
  obtain⟨v,hv,rfl⟩:=List.mem_map.1 hu
  exact .mk _ _ _ (hd.vars.2 v hv) (by simp) (by simp)
 unfold envR
 generalize hL:formalsT p d.name=L at *
 have hll:=hfl.1
 refine cB func182 ?_
 refine sR q1Ex ?_
 (refine AWp.freeze 3 rfl rfl (wk [(0,.dptr (tabC p) 0),(3,.dptr (deC d) 0),(4,.d .nil)] [] ?_))
 refine sC hf q1Ex ?_
 refine sC hnm q1Ex ?_
 refine sR q1Ex ?_
 refine AWp.promote 7 3 7 rfl ?_
 refine kR q1Ex fun K1 u1=>?_
 refine AWp.block (AWp.forIdx d.vars (X:=Unit) (fun j _=>[(3,.dptr (deC d) 0),(5,.d (.slice (foR L))),(6,.d (.slice (strR (L.map (·.name))))),(7,.acc 7),(19,.d (.slice (strR d.vars))),(20,intV d.vars.length),(21,intV j)]) (fun j _=>[(7,.rows 3 (tyR (varTs (d.vars.take j))))])
  (fun j _=>True) () trivial (by simp [sle,vle,sget,deC]) (by simp [ble,bget,tyR_map,varTs]) ?_ ?_)
 rotate_left
 ·intro j _ s hs hmem dp tk hlt _
  rw [tk]
  refine sR1 hlt q1Ex ?_
  refine AWp.goOn rfl ?_
  refine sK fun K2 u2=>?_
  refine AWp.block ?_
  (refine sV q1Ex fun K z=>?_;refine ci (strR_get hs) ?_;apply z;clear z K)
  (refine lV q1Ex fun K z=>?_;refine⟨by simp,by simp only [varTs,List.length_map,List.length_take];unfold lim sm at *;omega,?_⟩;(try refine ev ?_);apply z;clear z K;try simp only [thenA,blockA])
  refine u2 _ _ ?_
  clear u2 K2
  refine lT q1Ex ?_
  exact⟨(),trivial,(by simp [sle,vle,sget,deC]),by simp [ble,bget,tyR_map,varTs,tyC,Ty.name,Ty.args,Ty.pos]⟩
 intro _ _
 rw [List.take_length]
 refine sR1 Int.lt_irrefl q1Ex ?_
 refine AWp.stop rfl ?_
 simp only [thenA,blockA,if_true]
 refine u1 _ _ ?_
 clear u1 K1
 (refine AWp.publish 7 rfl (wk [(3,.dptr (deC d) 0),(5,.d (.slice (foR L))),(6,.d (.slice (strR (L.map (·.name))))),(7,.d (.slice (tyR (varTs d.vars))))] [] ?_))
 refine sR q1Ex ?_
 refine AWp.promote 10 5 10 rfl ?_
 have hsub:∀ z,z∈L.zip d.vars→CallOK prog 163 [tyV z.1.bound,strsV (L.map (·.name)),tysV (varTs d.vars)] (tyV (z.1.bound.subst (fnames L) (varTs d.vars))):=fun z hz =>
  ok_Subst (L.map (·.name)) (varTs d.vars) hvs z.1.bound (hfl.2 z.1 (List.of_mem_zip hz).1).bound
 have hmin:(if ((varTs d.vars).length:Int) < (L.length:Int) then ((varTs d.vars).length:Int) else (L.length:Int))=((L.zip d.vars).length:Int):=by
  rw [List.length_zip];simp only [varTs,List.length_map];split <;> omega
 have hzl:(L.zip d.vars).length≤sm:=by rw [List.length_zip];omega
 refine sK fun K1 u1=>?_
 (refine sV q1Ex fun K z=>?_;refine⟨_,opQ_min rfl rfl,?_⟩;(try refine ev ?_);apply z;clear z K)
 rw [hmin]
 refine AWp.block (AWp.forIdx (L.zip d.vars) (X:=Unit) (fun j _=>[(3,.dptr (deC d) 0),(5,.d (.slice (foR L))),(6,.d (.slice (strR (L.map (·.name))))),(7,.d (.slice (tyR (varTs d.vars)))),(10,.acc 10),(35,intV (L.zip d.vars).length),(36,intV j)])
  (fun j _=>[(10,.rows 5 (foR (((L.zip d.vars).take j).map fun z=>⟨z.2,z.1.bound.subst (fnames L) (varTs d.vars),z.1.pos⟩)))])
  (fun j _=>True) () trivial (by simp [sle,vle,sget,deC]) (by simp [ble,bget,foR]) ?_ ?_)
 rotate_left
 ·intro j _ z hz hmem dp tk hlt _
  obtain⟨f,v⟩:=z
  rw [List.getElem?_zip_eq_some] at hz
  have hs:=hsub (f,v) hmem
  simp only at hs
  rw [tk]
  refine sR1 hlt q1Ex ?_
  refine AWp.goOn rfl ?_
  refine sK fun K2 u2=>?_
  refine AWp.block ?_
  refine sR q1Ex ?_
  (refine lG q1Ex [] 21 [] fun K z=>?_;refine ev ?_;refine ci (strR_get hz.2) ?_;refine ci (foR_get hz.1) ?_;refine cc hs ?_;refine ci (foR_get hz.1) ?_;refine⟨by simp,by simp only [List.length_map,List.length_take];unfold lim sm at *;omega,?_⟩;(try refine ev ?_);apply z;clear z K;try simp only [thenA,blockA])
  refine u2 _ _ ?_
  clear u2 K2
  refine lT q1Ex ?_
  exact⟨(),trivial,(by simp [sle,vle,sget,deC]),by simp [ble,bget,foR,foC]⟩
 intro _ _
 rw [List.take_length]
 refine sR1 Int.lt_irrefl q1Ex ?_
 refine AWp.stop rfl ?_
 simp only [thenA,blockA,if_true]
 refine u1 _ _ ?_
 clear u1 K1
 (refine AWp.publish 10 rfl (wk [(10,.d (.slice (foR ((L.zip d.vars).map fun z=>⟨z.2,z.1.bound.subst (fnames L) (varTs d.vars),z.1.pos⟩))))] [] ?_))
 refine sR q1Ex ?_
 exact aR
def knownD (d:Decl):Bool:=decide (1≤d.kind∧d.kind≤3)
theorem ok_known (d:Decl):CallOK prog 122 [deV d] (boolV (knownD d)):=by
 unfold knownD
 by_cases h1:1≤d.kind
 ·have h1':=h1
  by_cases h2:d.kind≤3
  ·rw [decide_eq_true ⟨h1,h2⟩]
   refine cB func122 ?_
   refine sR [0,1,2] ?_
   refine sR2 h1 h2 [0,1,2] ?_
   exact aR
  ·rw [decide_eq_false (fun hh=>h2 hh.2)]
   refine cB func122 ?_
   refine sR [0,1,2] ?_
   refine sR2 h1 h2 [0,1,2] ?_
   exact aR
 ·rw [decide_eq_false (fun hh=>h1 hh.1)]
  refine cB func122 ?_
  refine sR [0,1,2] ?_
  refine sR1 h1 [0,1,2] ?_
  exact aR
theorem isT_eq (d x:Decl):x.isT d.name=(decide (¬ x.kind=3) && (decide (x.name=d.name) && knownD x)):=by
 unfold Decl.isT knownD
 by_cases hn:x.name=d.name
 ·rw [decide_eq_true hn,Bool.and_true,Bool.true_and,Bool.eq_iff_iff]
  simp only [Bool.or_eq_true,Bool.and_eq_true,decide_eq_true_eq]
  omega
 ·rw [decide_eq_false hn];simp
theorem ok_twinT (d x:Decl):CallOK prog 184 [deV x,.dptr (deC d) 0] (boolV (x.isT d.name)):=by
 have hk:=ok_known x
 rw [isT_eq]
 rcases Bool.eq_false_or_eq_true (decide (x.kind=3)) with m | m
 ·have h3:=of_decide_eq_true m
  rw [decide_eq_false (fun h=>h h3),Bool.false_and]
  refine cB func184 ?_
  refine sR [0,1,2,3] ?_
  (refine sQ [0,1,2,3] fun K z=>?_;simp -implicitDefEqProofs only [EV,Nat.reduceEqDiff,reduceCtorEq,TF3,TF53,m,decide_not];apply z;clear z K)
  exact aR
 ·have h3:=of_decide_eq_false m
  rw [decide_eq_true h3,Bool.true_and]
  rcases Bool.eq_false_or_eq_true (decide (x.name=d.name)) with n | n
  ·rw [n,Bool.true_and]
   generalize knownD x=b at *
   refine cB func184 ?_
   refine sR [0,1,2,3] ?_
   (refine sQ [0,1,2,3] fun K z=>?_;simp -implicitDefEqProofs only [EV,Nat.reduceAdd,Nat.reduceEqDiff,reduceCtorEq,TF3,TF9,TF53,m,n,decide_not];refine cc hk ?_;apply z;clear z K)
   exact aR
  ·rw [n,Bool.false_and]
   refine cB func184 ?_
   refine sR [0,1,2,3] ?_
   (refine sQ [0,1,2,3] fun K z=>?_;simp -implicitDefEqProofs only [EV,Nat.reduceEqDiff,reduceCtorEq,TF3,TF9,TF53,m,n,decide_not];apply z;clear z K)
   exact aR
theorem ok_typed2 (front:List Decl)(hl:front.length≤sm)(d:Decl) :
  CallOK prog 185 [.dptr [.slice (deR front)] 0,.dptr [.cl 184 [.ptr (deC d)]] 0,.dptr (deC d) 0] (errV (whenO (front.any fun x=>x.isT d.name) d.pos)):=by
 have hA:=ok_AnyD 184 [.ptr (deC d)] (fun x=>x.isT d.name) front hl fun x _=>⟨_,[.dptr (deC d) 0],_,_,rfl,⟨⟨rfl,rfl⟩,trivial⟩,rfl,ok_twinT d x⟩
 generalize (front.any fun x=>x.isT d.name)=b at *
 have hw:=ok_when b d.pos
 generalize whenO b d.pos=o at *
 refine cB func185 ?_
 refine sR [0,1,2,3] ?_
 (refine sG [0,1,2,3] [] 5 [] fun K z=>?_;refine ev ?_;refine cc hA ?_;refine cc hw ?_;apply z;clear z K)
 exact AWp.ret ⟨_,by rw [results185];rfl,co_err _ _⟩
theorem ok_typed3 (p:Prog)(d:Decl)(o:Option Int)(hF:CallOK prog 187 [.dptr (tabC p) 0,.d (.slice (foR [])),.d (.slice (foR d.formals))] (errV o)) :
  CallOK prog 186 [.dptr [tabP p] 0,.dptr (deC d) 0] (errV o):=by
 refine cB func186 ?_
 refine sR [0,1,2] ?_
 refine sC hF.ptr [0,1,2] ?_
 exact AWp.ret ⟨_,by rw [results186];rfl,co_err _ _⟩
theorem ok_typed4 (hs:SortedOK)(p:Prog)(h:p.Sm)(d:Decl) :
  CallOK prog 188 [.dptr [tabP p] 0,.dptr (deC d) 0] (errV (whenO (decide (d.name∈reachN p d.name)) d.pos)):=by
 have hp:=ok_TProgram p h
 have hr:=ok_CRec hs p h d.name
 generalize decide (d.name∈reachN p d.name)=b at *
 have hw:=ok_when b d.pos
 generalize whenO b d.pos=o at *
 refine cB func188 ?_
 refine sR [0,1,2] ?_
 (refine sG [0,1,2] [] 7 [] fun K z=>?_;refine ev ?_;refine cc hp.ptr ?_;refine cc hr ?_;refine cc hw ?_;apply z;clear z K)
 exact AWp.ret ⟨_,by rw [results188];rfl,co_err _ _⟩
def sig1 (p:Prog)(d:Decl)(j:Nat)(s:Sig):Option Int:=if s.name∈(d.sigs.take j).map (·.name) then some s.pos else sigR p d.formals s
theorem ok_typed5 (p:Prog)(h:p.Sm)(d:Decl)(hd:d.Sm)(h2:∀ s,s∈d.sigs→d.formals.length+s.formals.length≤sm)(j:Nat)(s:Sig)(hs:d.sigs[j]? = some s) :
  CallOK prog 191 [intV j,.dptr (deC d) 0,.dptr [tabP p] 0] (errV (sig1 p d j s)):=by
 have hmem:=List.mem_of_getElem? hs
 have hdb:=ok_doubleS d.sigs hd.sigs.1 j s hs
 have hsg:=ok_DSig p h d.formals s (h2 s hmem) hd.formals.2 (hd.sigs.2 s hmem)
 have hw:=ok_when true s.pos
 unfold sig1
 by_cases hm:s.name∈(d.sigs.take j).map (·.name)
 ·rw [if_pos hm]
  rw [decide_eq_true hm] at hdb
  simp only [whenO,if_true,errV,errD] at hw ⊢
  refine cB func191 ?_
  refine sR [0,1,2,4,8] ?_
  refine kC hdb [0,1,2,4,8] fun K1 u1=>?_
  refine tI ?_
  (refine sV [0,1,2,4,8] fun K z=>?_;refine ci (siR_get hs) ?_;refine cc hw ?_;apply z;clear z K)
  exact aR
 ·rw [if_neg hm]
  rw [decide_eq_false hm] at hdb
  generalize sigR p d.formals s=o at *
  refine cB func191 ?_
  refine sR [0,1,2,4,8] ?_
  refine kC hdb [0,1,2,4,8] fun K1 u1=>?_
  refine kI u1 ?_
  clear u1 K1
  (refine sG [0,1,2,4,8] [] 8 [] fun K z=>?_;refine ev ?_;refine ci (siR_get hs) ?_;refine cc hsg.ptr ?_;apply z;clear z K)
  exact AWp.ret ⟨_,by rw [results191];rfl,co_err _ _⟩
theorem first_sigs (p:Prog)(env:List Formal):∀ (l:List Sig)(pre:List Str),firstO (l.mapIdx fun j s=>if s.name∈pre++(l.take j).map (·.name) then some s.pos else sigR p env s)=sigsR p env pre l
 | [],_=>rfl
 | x::l,pre=>by
  rw [List.mapIdx_cons,sigsR]
  simp only [List.take_zero,List.map_nil,List.append_nil,List.take_succ_cons,List.map_cons]
  have ih:=first_sigs p env l (pre++[x.name])
  simp only [List.append_assoc,List.singleton_append] at ih
  by_cases hm:x.name∈pre
  ·rw [if_pos hm,if_pos hm,firstO]
  ·rw [if_neg hm,if_neg hm]
   cases hc:sigR p env x with
   | some q=>rw [firstO]
   | none=>rw [firstO];exact ih
def typedD (p:Prog)(front:List Decl)(d:Decl):Option Int :=
 firstO (whenO (front.any fun x=>x.isT d.name) d.pos::formalsR p [] d.formals ::
  (if d.kind=1 then [parR p d.formals [] d.fields,whenO (decide (d.name∈reachN p d.name)) d.pos] else [sigsR p d.formals [] d.sigs]))
abbrev q1Fx:List Nat:=[0,1,2,3,4,5,6,7,8,9,10,11,17]
set_option maxHeartbeats 4000000 in
theorem ok_DTyped (hs:SortedOK)(p:Prog)(h:p.Sm)(front:List Decl)(hl:front.length≤sm)(d:Decl)(hd:d.Sm)(h2:∀ s,s∈d.sigs→d.formals.length+s.formals.length≤sm) :
  CallOK prog 125 [.dptr (tabC p) 0,.d (.slice (deR front)),deV d] (errV (typedD p front d)):=by
 have hfl:=hd.formals.1
 have f2:FnOK prog (.cl 185 [.ptr [.slice (deR front)],.ptr [.cl 184 [.ptr (deC d)]],.ptr (deC d)]) [] (errV (whenO (front.any fun x=>x.isT d.name) d.pos)) :=
  ⟨_,[.dptr [.slice (deR front)] 0,.dptr [.cl 184 [.ptr (deC d)]] 0,.dptr (deC d) 0],_,_,rfl,⟨⟨rfl,rfl⟩,⟨rfl,rfl⟩,⟨rfl,rfl⟩,trivial⟩,rfl,ok_typed2 front hl d⟩
 have f3:FnOK prog (.cl 186 [.ptr [tabP p],.ptr (deC d)]) [] (errV (formalsR p [] d.formals)) :=
  ⟨_,[.dptr [tabP p] 0,.dptr (deC d) 0],_,_,rfl,⟨⟨rfl,rfl⟩,⟨rfl,rfl⟩,trivial⟩,rfl,ok_typed3 p d _ (ok_DFormals p h [] d.formals (by simpa using hfl) (by simp) hd.formals.2)⟩
 unfold typedD
 rcases Bool.eq_false_or_eq_true (decide (d.kind=1)) with m | m
 ·rw [if_pos (of_decide_eq_true m)]
  have f4:FnOK prog (.cl 188 [.ptr [tabP p],.ptr (deC d)]) [] (errV (whenO (decide (d.name∈reachN p d.name)) d.pos)) :=
   ⟨_,[.dptr [tabP p] 0,.dptr (deC d) 0],_,_,rfl,⟨⟨rfl,rfl⟩,⟨rfl,rfl⟩,trivial⟩,rfl,ok_typed4 hs p h d⟩
  have f5:=fn_params p h d.formals hfl hd.formals.2 d.fields hd.fields.1 hd.fields.2
  have hP:=ok_params p d.formals d.fields hd.fields.1
  generalize whenO (front.any fun x=>x.isT d.name) d.pos=o1 at *
  generalize formalsR p [] d.formals=o2 at *
  generalize parR p d.formals [] d.fields=o3 at *
  generalize whenO (decide (d.name∈reachN p d.name)) d.pos=o4 at *
  have hF:CallOK prog 176 [.d (.slice [[.cl 185 [.ptr [.slice (deR front)],.ptr [.cl 184 [.ptr (deC d)]],.ptr (deC d)]],[.cl 186 [.ptr [tabP p],.ptr (deC d)]],[parsD p d.formals d.fields],[.cl 188 [.ptr [tabP p],.ptr (deC d)]]])] (errV (firstO [o1,o2,o3,o4])) :=
   ok_dfirst [(_,o1),(_,o2),(_,o3),(_,o4)] (show 4≤sm by decide) (by
    intro x hx
    simp only [List.mem_cons,List.not_mem_nil,or_false] at hx
    rcases hx with rfl | rfl | rfl | rfl
    ·exact f2
    ·exact f3
    ·exact f5
    ·exact f4)
  generalize firstO [o1,o2,o3,o4]=R at *
  refine cB func125 ?_
  refine sR q1Fx ?_
  refine AWp.freezeP 3 rfl rfl ?_
  (refine AWp.freeze 4 rfl rfl ?_;refine AWp.freeze 5 rfl rfl (wk [(3,.dptr [tabP p] 0),(4,.dptr [.slice (deR front)] 0),(5,.dptr (deC d) 0)] [] ?_))
  (refine AWp.seqR q1Fx [800012] (by decide +kernel) fun K z=>?_;refine ev ?_;refine⟨_,opQ_cl (xs:=[.dptr (deC d) 0]) (ys:=[.ptr (deC d)]) ⟨⟨rfl,rfl⟩,trivial⟩ rfl,?_⟩;(try refine ev ?_);apply z;clear z K)
  (refine AWp.freeze 7 rfl rfl (wk [(3,.dptr [tabP p] 0),(4,.dptr [.slice (deR front)] 0),(5,.dptr (deC d) 0),(7,.dptr [.cl 184 [.ptr (deC d)]] 0)] [] ?_))
  (refine AWp.seqR q1Fx [800013] (by decide +kernel) fun K z=>?_;refine ev ?_;refine⟨_,opQ_cl (xs:=[.dptr [.slice (deR front)] 0,.dptr [.cl 184 [.ptr (deC d)]] 0,.dptr (deC d) 0]) (ys:=[.ptr [.slice (deR front)],.ptr [.cl 184 [.ptr (deC d)]],.ptr (deC d)]) ⟨⟨rfl,rfl⟩,⟨rfl,rfl⟩,⟨rfl,rfl⟩,trivial⟩ rfl,?_⟩;(try refine ev ?_);apply z;clear z K)
  (refine AWp.seqR q1Fx [800014] (by decide +kernel) fun K z=>?_;refine ev ?_;refine⟨_,opQ_cl (xs:=[.dptr [tabP p] 0,.dptr (deC d) 0]) (ys:=[.ptr [tabP p],.ptr (deC d)]) ⟨⟨rfl,rfl⟩,⟨rfl,rfl⟩,trivial⟩ rfl,?_⟩;(try refine ev ?_);apply z;clear z K)
  refine kR1 m q1Fx fun K1 u1=>?_
  refine tI ?_
  (refine AWp.seqR q1Fx [800018] (by decide +kernel) fun K z=>?_;refine ev ?_;refine⟨_,opQ_cl (xs:=[.dptr [tabP p] 0,.dptr (deC d) 0]) (ys:=[.ptr [tabP p],.ptr (deC d)]) ⟨⟨rfl,rfl⟩,⟨rfl,rfl⟩,trivial⟩ rfl,?_⟩;(try refine ev ?_);apply z;clear z K)
  (refine sV q1Fx fun K z=>?_;refine cc hP.ptr ?_;refine cc hF ?_;apply z;clear z K)
  exact AWp.ret ⟨_,by rw [results125];rfl,co_err _ _⟩
 ·rw [if_neg (of_decide_eq_false m)]
  have hsl:=hd.sigs.1
  have hE:=ok_each d.sigs.length 191 [.ptr (deC d),.ptr [tabP p]]
  have f6:=fn_each 191 [.ptr (deC d),.ptr [tabP p]] (d.sigs.mapIdx fun j s=>sig1 p d j s) d.sigs.length (by simp) (by simpa using hsl) fun j x hx=>by
   rw [List.getElem?_mapIdx,Option.map_eq_some_iff] at hx
   obtain⟨s,hs',rfl⟩:=hx
   exact⟨_,[.dptr (deC d) 0,.dptr [tabP p] 0],_,_,rfl,⟨⟨rfl,rfl⟩,⟨rfl,rfl⟩,trivial⟩,rfl,ok_typed5 p h d hd h2 j s hs'⟩
  rw [show firstO (d.sigs.mapIdx fun j s=>sig1 p d j s)=sigsR p d.formals [] d.sigs from first_sigs p d.formals d.sigs []] at f6
  generalize whenO (front.any fun x=>x.isT d.name) d.pos=o1 at *
  generalize formalsR p [] d.formals=o2 at *
  generalize sigsR p d.formals [] d.sigs=o3 at *
  have hF:CallOK prog 176 [.d (.slice [[.cl 185 [.ptr [.slice (deR front)],.ptr [.cl 184 [.ptr (deC d)]],.ptr (deC d)]],[.cl 186 [.ptr [tabP p],.ptr (deC d)]],[eachD d.sigs.length (.cl 191 [.ptr (deC d),.ptr [tabP p]])]])] (errV (firstO [o1,o2,o3])) :=
   ok_dfirst [(_,o1),(_,o2),(_,o3)] (show 3≤sm by decide) (by
    intro x hx
    simp only [List.mem_cons,List.not_mem_nil,or_false] at hx
    rcases hx with rfl | rfl | rfl
    ·exact f2
    ·exact f3
    ·exact f6)
  generalize firstO [o1,o2,o3]=R at *
  refine cB func125 ?_
  refine sR q1Fx ?_
  refine AWp.freezeP 3 rfl rfl ?_
  (refine AWp.freeze 4 rfl rfl ?_;refine AWp.freeze 5 rfl rfl (wk [(3,.dptr [tabP p] 0),(4,.dptr [.slice (deR front)] 0),(5,.dptr (deC d) 0)] [] ?_))
  (refine AWp.seqR q1Fx [800012] (by decide +kernel) fun K z=>?_;refine ev ?_;refine⟨_,opQ_cl (xs:=[.dptr (deC d) 0]) (ys:=[.ptr (deC d)]) ⟨⟨rfl,rfl⟩,trivial⟩ rfl,?_⟩;(try refine ev ?_);apply z;clear z K)
  (refine AWp.freeze 7 rfl rfl (wk [(3,.dptr [tabP p] 0),(4,.dptr [.slice (deR front)] 0),(5,.dptr (deC d) 0),(7,.dptr [.cl 184 [.ptr (deC d)]] 0)] [] ?_))
  (refine AWp.seqR q1Fx [800013] (by decide +kernel) fun K z=>?_;refine ev ?_;refine⟨_,opQ_cl (xs:=[.dptr [.slice (deR front)] 0,.dptr [.cl 184 [.ptr (deC d)]] 0,.dptr (deC d) 0]) (ys:=[.ptr [.slice (deR front)],.ptr [.cl 184 [.ptr (deC d)]],.ptr (deC d)]) ⟨⟨rfl,rfl⟩,⟨rfl,rfl⟩,⟨rfl,rfl⟩,trivial⟩ rfl,?_⟩;(try refine ev ?_);apply z;clear z K)
  (refine AWp.seqR q1Fx [800014] (by decide +kernel) fun K z=>?_;refine ev ?_;refine⟨_,opQ_cl (xs:=[.dptr [tabP p] 0,.dptr (deC d) 0]) (ys:=[.ptr [tabP p],.ptr (deC d)]) ⟨⟨rfl,rfl⟩,⟨rfl,rfl⟩,trivial⟩ rfl,?_⟩;(try refine ev ?_);apply z;clear z K)
  refine kR1 m q1Fx fun K1 u1=>?_
  refine kI u1 ?_
  clear u1 K1
  (refine AWp.seqR q1Fx [800033] (by decide +kernel) fun K z=>?_;refine ev ?_;refine⟨_,opQ_cl (xs:=[.dptr (deC d) 0,.dptr [tabP p] 0]) (ys:=[.ptr (deC d),.ptr [tabP p]]) ⟨⟨rfl,rfl⟩,⟨rfl,rfl⟩,trivial⟩ rfl,?_⟩;(try refine ev ?_);refine cc hE ?_;apply z;clear z K)
  refine sC hF q1Fx ?_
  exact AWp.ret ⟨_,by rw [results125];rfl,co_err _ _⟩
abbrev atD (d:Decl):D:=.cl 170 [.ptr (deC d)]
theorem ok_at (d:Decl)(b:Bool):CallOK prog 170 [boolV b,.dptr (deC d) 0] (errV (whenO b d.pos)):=by
 have hw:=ok_when b d.pos
 generalize whenO b d.pos=o at *
 refine cB func170 ?_
 refine sR [0,1,3] ?_
 refine sC hw [0,1,3] ?_
 exact AWp.ret ⟨_,by rw [results170];rfl,co_err _ _⟩
theorem fn_at (d:Decl)(b:Bool):FnOK prog (atD d) [boolV b] (errV (whenO b d.pos)):=⟨_,[.dptr (deC d) 0],_,_,rfl,⟨⟨rfl,rfl⟩,trivial⟩,rfl,ok_at d b⟩
theorem keyM_and (d x:Decl):keyM d.name d.sig.name x=(decide (x.kind=3) && (decide (x.name=d.name) && decide (x.sig.name=d.sig.name))):=by
 unfold keyM;rw [Bool.and_assoc]
theorem ok_twinM (d x:Decl):CallOK prog 171 [deV x,.dptr (deC d) 0] (boolV (keyM d.name d.sig.name x)):=by
 rw [keyM_and]
 rcases Bool.eq_false_or_eq_true (decide (x.kind=3)) with m | m
 ·rw [m,Bool.true_and]
  rcases Bool.eq_false_or_eq_true (decide (x.name=d.name)) with n | n
  ·rw [n,Bool.true_and]
   refine cB func171 ?_
   refine sR [0,1,2,3] ?_
   refine sR2 m n [0,1,2,3] ?_
   exact aR
  ·rw [n,Bool.false_and]
   refine cB func171 ?_
   refine sR [0,1,2,3] ?_
   refine sR2 m n [0,1,2,3] ?_
   exact aR
 ·rw [m,Bool.false_and]
  refine cB func171 ?_
  refine sR [0,1,2,3] ?_
  refine sR1 m [0,1,2,3] ?_
  exact aR
def var1 (p:Prog)(d:Decl)(j:Nat)(v:Str):Option Int:=if kindOf p v≠0∨v∈d.vars.take j then some d.pos else none
theorem ok_var1 (p:Prog)(h:p.Sm)(d:Decl)(hl:d.vars.length≤sm)(j:Nat)(v:Str)(hv:d.vars[j]? = some v) :
  CallOK prog 173 [intV j,.dptr [atD d] 0,.dptr [tabP p] 0,.dptr (deC d) 0] (errV (var1 p d j v)):=by
 have hj:=(List.getElem?_eq_some_iff.1 hv).1
 have hk:=ok_TKind p h v
 have ht:=fn_at d true
 have hf:=fn_at d false
 have hin:CallOK prog 175 [.d (.slice ((strR d.vars).take j)),strV v] (boolV (decide (v∈d.vars.take j))):=by
  rw [show (strR d.vars).take j=strR (d.vars.take j) by simp [strR,List.map_take]]
  exact ok_SContains _ (by rw [List.length_take];omega) _
 simp only [whenO,Bool.false_eq_true,if_true,if_false,errV,errD] at ht hf
 unfold var1
 by_cases hk0:kindOf p v=0
 rotate_left
 ·rw [if_pos (.inl hk0)]
  simp only [errV,errD]
  refine cB func173 ?_
  refine sR [0,1,2,3,5] ?_
  (refine sG [0,1,2,3,5] [] 21 [] fun K z=>?_;refine ev ?_;refine ci (strR_get hv) ?_;refine⟨_,.inl ⟨_,rfl,hk.ptr,rfl⟩,?_⟩;(try refine ev1 hk0 ?_);refine⟨_,opQ_callFn rfl ht rfl,?_⟩;(try refine ev ?_);apply z;clear z K)
  exact aR
 by_cases hm:v∈d.vars.take j
 ·rw [if_pos (.inr hm)]
  rw [decide_eq_true hm] at hin
  simp only [errV,errD]
  refine cB func173 ?_
  refine sR [0,1,2,3,5] ?_
  (refine sG [0,1,2,3,5] [] 21 [] fun K z=>?_;refine ev ?_;refine ci (strR_get hv) ?_;refine⟨_,.inl ⟨_,rfl,hk.ptr,rfl⟩,?_⟩;(try refine ev1 hk0 ?_);refine⟨strR_row _,by omega,by omega,?_⟩;(try refine ev1 hk0 ?_);refine ci (strR_get hv) ?_;refine cc hin ?_;refine⟨_,opQ_callFn rfl ht rfl,?_⟩;(try refine ev ?_);apply z;clear z K)
  exact aR
 ·rw [if_neg (by rintro (a | a);exact a hk0;exact hm a)]
  rw [decide_eq_false hm] at hin
  simp only [errV,errD]
  refine cB func173 ?_
  refine sR [0,1,2,3,5] ?_
  (refine sG [0,1,2,3,5] [] 21 [] fun K z=>?_;refine ev ?_;refine ci (strR_get hv) ?_;refine⟨_,.inl ⟨_,rfl,hk.ptr,rfl⟩,?_⟩;(try refine ev1 hk0 ?_);refine⟨strR_row _,by omega,by omega,?_⟩;(try refine ev1 hk0 ?_);refine ci (strR_get hv) ?_;refine cc hin ?_;refine⟨_,opQ_callFn rfl hf rfl,?_⟩;(try refine ev ?_);apply z;clear z K)
  exact aR
theorem first_vars (p:Prog)(n:Int):∀ (l pre:List Str),firstO (l.mapIdx fun j v=>if kindOf p v≠0∨v∈pre++l.take j then some n else none)=if varsR p pre l=true then some n else none
 | [],_=>rfl
 | v::l,pre=>by
  rw [List.mapIdx_cons,varsR]
  simp only [List.take_zero,List.append_nil,List.take_succ_cons]
  have ih:=first_vars p n l (pre++[v])
  simp only [List.append_assoc,List.singleton_append] at ih
  by_cases hc:kindOf p v≠0∨v∈pre
  ·rw [if_pos hc,firstO,decide_eq_true hc,Bool.true_or,if_pos rfl]
  ·rw [if_neg hc,firstO,decide_eq_false hc,Bool.false_or];exact ih
def recv1 (p:Prog)(d:Decl):Option Int:=if kindOf p d.name≠1∨d.vars.length≠(formalsT p d.name).length then some d.pos else none
theorem ok_recv1 (p:Prog)(h:p.Sm)(d:Decl):CallOK prog 177 [.dptr [atD d] 0,.dptr [tabP p] 0,.dptr (deC d) 0] (errV (recv1 p d)):=by
 have hk:=ok_TKind p h d.name
 have hfo:=ok_TFormals p h d.name
 have ht:=fn_at d true
 have hf:=fn_at d false
 simp only [whenO,Bool.false_eq_true,if_true,if_false,errV,errD] at ht hf
 unfold recv1
 generalize formalsT p d.name=L at *
 by_cases a1:kindOf p d.name=1
 rotate_left
 ·rw [if_pos (.inl a1)]
  simp only [errV,errD]
  refine cB func177 ?_
  refine sR [0,1,2,3] ?_
  (refine sG [0,1,2,3] [] 17 [] fun K z=>?_;refine ev ?_;refine⟨_,.inl ⟨_,rfl,hk.ptr,rfl⟩,?_⟩;(try refine ev1 a1 ?_);refine⟨_,opQ_callFn rfl ht rfl,?_⟩;(try refine ev ?_);apply z;clear z K)
  exact aR
 by_cases a2:d.vars.length=L.length
 rotate_left
 ·rw [if_pos (.inr a2)]
  have a2':¬ (d.vars.length:Int)=(L.length:Int):=by omega
  simp only [errV,errD]
  refine cB func177 ?_
  refine sR [0,1,2,3] ?_
  (refine sG [0,1,2,3] [] 17 [] fun K z=>?_;refine ev ?_;refine⟨_,.inl ⟨_,rfl,hk.ptr,rfl⟩,?_⟩;(try refine ev1 a1 ?_);refine⟨_,.inl ⟨_,rfl,hfo.ptr,rfl⟩,?_⟩;(try refine ev1 a2' ?_);refine⟨_,opQ_callFn rfl ht rfl,?_⟩;(try refine ev ?_);apply z;clear z K)
  exact aR
 ·rw [if_neg (by rintro (hh | hh);exact hh a1;exact hh a2)]
  have a2':(d.vars.length:Int)=(L.length:Int):=by omega
  simp only [errV,errD]
  refine cB func177 ?_
  refine sR [0,1,2,3] ?_
  (refine sG [0,1,2,3] [] 17 [] fun K z=>?_;refine ev ?_;refine⟨_,.inl ⟨_,rfl,hk.ptr,rfl⟩,?_⟩;(try refine ev2 a1 a2' ?_);refine cc hfo.ptr ?_;refine⟨_,opQ_callFn rfl hf rfl,?_⟩;(try refine ev ?_);apply z;clear z K)
  exact aR
theorem ok_twice (front:List Decl)(hl:front.length≤sm)(d:Decl) :
  CallOK prog 179 [.dptr [atD d] 0,.dptr [.slice (deR front)] 0,.dptr [.cl 171 [.ptr (deC d)]] 0] (errV (whenO (front.any (keyM d.name d.sig.name)) d.pos)):=by
 have hA:=ok_AnyD 171 [.ptr (deC d)] (keyM d.name d.sig.name) front hl fun x _=>⟨_,[.dptr (deC d) 0],_,_,rfl,⟨⟨rfl,rfl⟩,trivial⟩,rfl,ok_twinM d x⟩
 have ht:=fn_at d (front.any (keyM d.name d.sig.name))
 generalize front.any (keyM d.name d.sig.name)=b at *
 generalize whenO b d.pos=o at *
 refine cB func179 ?_
 refine sR [0,1,2,3] ?_
 (refine sG [0,1,2,3] [] 4 [] fun K z=>?_;refine ev ?_;refine cc hA ?_;refine⟨_,opQ_callFn rfl ht rfl,?_⟩;(try refine ev ?_);apply z;clear z K)
 exact AWp.ret ⟨_,by rw [results179];rfl,co_err _ _⟩
theorem ok_msig (p:Prog)(h:p.Sm)(d:Decl)(hd:d.Sm)(h2:d.vars.length+d.sig.formals.length≤sm) :
  CallOK prog 180 [.dptr [tabP p] 0,.dptr (deC d) 0] (errV (sigR p (envR p d) d.sig)):=by
 have he:=ok_DEnv p h d hd
 have hel:=envR_len p d
 have hs:=ok_DSig p h (envR p d) d.sig (by omega) (envR_Sm h hd) hd.sig
 generalize sigR p (envR p d) d.sig=o at *
 refine cB func180 ?_
 refine sR [0,1,2] ?_
 (refine sG [0,1,2] [] 6 [] fun K z=>?_;refine ev ?_;refine cc he.ptr ?_;refine cc hs.ptr ?_;apply z;clear z K)
 exact AWp.ret ⟨_,by rw [results180];rfl,co_err _ _⟩
theorem ok_mrecv (d:Decl)(j:Nat)(f:Param)(hf:d.sig.params[j]? = some f) :
  CallOK prog 183 [intV j,.dptr (deC d) 0] (errV (whenO (decide (f.name=d.recv)) f.pos)):=by
 have hw:=ok_when (decide (f.name=d.recv)) f.pos
 generalize whenO (decide (f.name=d.recv)) f.pos=o at *
 refine cB func183 ?_
 refine sR [0,1,3] ?_
 (refine sG [0,1,3] [] 17 [] fun K z=>?_;refine ev ?_;refine ci (paR_get hf) ?_;refine ci (paR_get hf) ?_;refine cc hw ?_;apply z;clear z K)
 exact AWp.ret ⟨_,by rw [results183];rfl,co_err _ _⟩
theorem first_recv (s:Str):∀ l:List Param,firstO (l.mapIdx fun _ f=>whenO (decide (f.name=s)) f.pos)=(l.find? fun f=>decide (f.name=s)).map (·.pos)
 | []=>rfl
 | x::l=>by
  rw [List.mapIdx_cons,List.find?_cons]
  cases hc:decide (x.name=s) with
  | true=>rfl
  | false=>exact first_recv s l
def methodD (p:Prog)(front:List Decl)(d:Decl):Option Int :=
 firstO [recv1 p d,(if varsR p [] d.vars=true then some d.pos else none),whenO (front.any (keyM d.name d.sig.name)) d.pos,sigR p (envR p d) d.sig,(d.sig.params.find? fun f=>decide (f.name=d.recv)).map (·.pos)]
abbrev q1Gx:List Nat:=[0,1,2,3,4,5,6,7,8,9]
set_option maxHeartbeats 4000000 in
theorem ok_DMethod (p:Prog)(h:p.Sm)(front:List Decl)(hl:front.length≤sm)(d:Decl)(hd:d.Sm)(h2:d.vars.length+d.sig.formals.length≤sm) :
  CallOK prog 124 [.dptr (tabC p) 0,.d (.slice (deR front)),deV d] (errV (methodD p front d)):=by
 have hvl:=hd.vars.1
 have hpl:=hd.sig.params.1
 have f1:FnOK prog (.cl 177 [.ptr [atD d],.ptr [tabP p],.ptr (deC d)]) [] (errV (recv1 p d)) :=
  ⟨_,[.dptr [atD d] 0,.dptr [tabP p] 0,.dptr (deC d) 0],_,_,rfl,⟨⟨rfl,rfl⟩,⟨rfl,rfl⟩,⟨rfl,rfl⟩,trivial⟩,rfl,ok_recv1 p h d⟩
 have f2:=fn_each 173 [.ptr [atD d],.ptr [tabP p],.ptr (deC d)] (d.vars.mapIdx fun j v=>var1 p d j v) d.vars.length (by simp) (by simpa using hvl) fun j x hx=>by
  rw [List.getElem?_mapIdx,Option.map_eq_some_iff] at hx
  obtain⟨v,hv,rfl⟩:=hx
  exact⟨_,[.dptr [atD d] 0,.dptr [tabP p] 0,.dptr (deC d) 0],_,_,rfl,⟨⟨rfl,rfl⟩,⟨rfl,rfl⟩,⟨rfl,rfl⟩,trivial⟩,rfl,ok_var1 p h d hvl j v hv⟩
 rw [show firstO (d.vars.mapIdx fun j v=>var1 p d j v)=if varsR p [] d.vars=true then some d.pos else none from first_vars p d.pos d.vars []] at f2
 have f3:FnOK prog (.cl 179 [.ptr [atD d],.ptr [.slice (deR front)],.ptr [.cl 171 [.ptr (deC d)]]]) [] (errV (whenO (front.any (keyM d.name d.sig.name)) d.pos)) :=
  ⟨_,[.dptr [atD d] 0,.dptr [.slice (deR front)] 0,.dptr [.cl 171 [.ptr (deC d)]] 0],_,_,rfl,⟨⟨rfl,rfl⟩,⟨rfl,rfl⟩,⟨rfl,rfl⟩,trivial⟩,rfl,ok_twice front hl d⟩
 have f4:FnOK prog (.cl 180 [.ptr [tabP p],.ptr (deC d)]) [] (errV (sigR p (envR p d) d.sig)) :=
  ⟨_,[.dptr [tabP p] 0,.dptr (deC d) 0],_,_,rfl,⟨⟨rfl,rfl⟩,⟨rfl,rfl⟩,trivial⟩,rfl,ok_msig p h d hd h2⟩
 have f5:=fn_each 183 [.ptr (deC d)] (d.sig.params.mapIdx fun _ f=>whenO (decide (f.name=d.recv)) f.pos) d.sig.params.length (by simp) (by simpa using hpl) fun j x hx=>by
  rw [List.getElem?_mapIdx,Option.map_eq_some_iff] at hx
  obtain⟨f,hf,rfl⟩:=hx
  exact⟨_,[.dptr (deC d) 0],_,_,rfl,⟨⟨rfl,rfl⟩,trivial⟩,rfl,ok_mrecv d j f hf⟩
 rw [first_recv] at f5
 have hE1:=ok_each d.vars.length 173 [.ptr [atD d],.ptr [tabP p],.ptr (deC d)]
 have hE2:=ok_each d.sig.params.length 183 [.ptr (deC d)]
 unfold methodD
 generalize recv1 p d=o1 at *
 generalize (if varsR p [] d.vars=true then some d.pos else none)=o2 at *
 generalize whenO (front.any (keyM d.name d.sig.name)) d.pos=o3 at *
 generalize sigR p (envR p d) d.sig=o4 at *
 generalize (d.sig.params.find? fun f=>decide (f.name=d.recv)).map (·.pos)=o5 at *
 have hF:CallOK prog 176 [.d (.slice [[.cl 177 [.ptr [atD d],.ptr [tabP p],.ptr (deC d)]],[eachD d.vars.length (.cl 173 [.ptr [atD d],.ptr [tabP p],.ptr (deC d)])],[.cl 179 [.ptr [atD d],.ptr [.slice (deR front)],.ptr [.cl 171 [.ptr (deC d)]]]],[.cl 180 [.ptr [tabP p],.ptr (deC d)]],[eachD d.sig.params.length (.cl 183 [.ptr (deC d)])]])] (errV (firstO [o1,o2,o3,o4,o5])) :=
  ok_dfirst [(_,o1),(_,o2),(_,o3),(_,o4),(_,o5)] (show 5≤sm by decide) (by
   intro x hx
   simp only [List.mem_cons,List.not_mem_nil,or_false] at hx
   rcases hx with rfl | rfl | rfl | rfl | rfl
   ·exact f1
   ·exact f2
   ·exact f3
   ·exact f4
   ·exact f5)
 generalize firstO [o1,o2,o3,o4,o5]=R at *
 refine cB func124 ?_
 refine sR q1Gx ?_
 refine AWp.freezeP 3 rfl rfl ?_
 (refine AWp.freeze 4 rfl rfl ?_;refine AWp.freeze 5 rfl rfl (wk [(3,.dptr [tabP p] 0),(4,.dptr [.slice (deR front)] 0),(5,.dptr (deC d) 0)] [] ?_))
 (refine AWp.seqR q1Gx [800010] (by decide +kernel) fun K z=>?_;refine ev ?_;refine⟨_,opQ_cl (xs:=[.dptr (deC d) 0]) (ys:=[.ptr (deC d)]) ⟨⟨rfl,rfl⟩,trivial⟩ rfl,?_⟩;(try refine ev ?_);apply z;clear z K)
 (refine AWp.seqR q1Gx [800011] (by decide +kernel) fun K z=>?_;refine ev ?_;refine⟨_,opQ_cl (xs:=[.dptr (deC d) 0]) (ys:=[.ptr (deC d)]) ⟨⟨rfl,rfl⟩,trivial⟩ rfl,?_⟩;(try refine ev ?_);apply z;clear z K)
 (refine AWp.freeze 7 rfl rfl ?_;refine AWp.freeze 8 rfl rfl (wk [(3,.dptr [tabP p] 0),(4,.dptr [.slice (deR front)] 0),(5,.dptr (deC d) 0),(7,.dptr [atD d] 0),(8,.dptr [.cl 171 [.ptr (deC d)]] 0)] [] ?_))
 (refine AWp.seqR q1Gx [800015] (by decide +kernel) fun K z=>?_;refine ev ?_;refine⟨_,opQ_cl (xs:=[.dptr [atD d] 0,.dptr [tabP p] 0,.dptr (deC d) 0]) (ys:=[.ptr [atD d],.ptr [tabP p],.ptr (deC d)]) ⟨⟨rfl,rfl⟩,⟨rfl,rfl⟩,⟨rfl,rfl⟩,trivial⟩ rfl,?_⟩;(try refine ev ?_);refine cc hE1 ?_;apply z;clear z K)
 (refine AWp.seqR q1Gx [800017,800019,800020,800025] (by decide +kernel) fun K z=>?_;refine ev ?_;refine⟨_,opQ_cl (xs:=[.dptr [atD d] 0,.dptr [tabP p] 0,.dptr (deC d) 0]) (ys:=[.ptr [atD d],.ptr [tabP p],.ptr (deC d)]) ⟨⟨rfl,rfl⟩,⟨rfl,rfl⟩,⟨rfl,rfl⟩,trivial⟩ rfl,?_⟩;(try refine ev ?_);refine⟨_,opQ_cl (xs:=[.dptr [atD d] 0,.dptr [.slice (deR front)] 0,.dptr [.cl 171 [.ptr (deC d)]] 0]) (ys:=[.ptr [atD d],.ptr [.slice (deR front)],.ptr [.cl 171 [.ptr (deC d)]]]) ⟨⟨rfl,rfl⟩,⟨rfl,rfl⟩,⟨rfl,rfl⟩,trivial⟩ rfl,?_⟩;(try refine ev ?_);refine⟨_,opQ_cl (xs:=[.dptr [tabP p] 0,.dptr (deC d) 0]) (ys:=[.ptr [tabP p],.ptr (deC d)]) ⟨⟨rfl,rfl⟩,⟨rfl,rfl⟩,trivial⟩ rfl,?_⟩;(try refine ev ?_);refine⟨_,opQ_cl (xs:=[.dptr (deC d) 0]) (ys:=[.ptr (deC d)]) ⟨⟨rfl,rfl⟩,trivial⟩ rfl,?_⟩;(try refine ev ?_);refine cc hE2 ?_;refine cc hF ?_;apply z;clear z K)
 exact AWp.ret ⟨_,by rw [results124];rfl,co_err _ _⟩
end Go.Abs
