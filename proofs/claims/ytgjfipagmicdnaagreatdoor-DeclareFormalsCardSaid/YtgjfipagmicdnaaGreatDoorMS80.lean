/- the ends of formals in order are in order; the walk of DeclareFormals, given awake -/
import Derived.Test.YtgjfipagmicdnaaGreatDoorMS77
import Derived.Test.YtgjfipagmicdnaaGreatDoorMAb15
namespace Go.Abs
set_option linter.unusedSimpArgs false
set_option linter.unusedVariables false
open Go Go.Proofs Tryz
set_option maxRecDepth 100000
set_option maxHeartbeats 1000000
theorem freshR_end (p:Prog):∀ (a pre b:List Formal),freshR p pre (a++b)=none→freshR p (pre++a) b=none
 | [],pre,b,h=>by simpa using h
 | f::a,pre,b,h=>by
  rw [List.cons_append,freshR] at h
  split at h
  ·cases h
  ·have:=freshR_end p a (pre++[f]) b h
   simpa using this
theorem boundR_end (p:Prog)(all:List Formal):∀ (a b:List Formal),boundR p all (a++b)=none→boundR p all b=none
 | [],b,h=>h
 | f::a,b,h=>by
  rw [List.cons_append,boundR] at h
  split at h
  ·cases h
  ·split at h
   ·exact boundR_end p all a b h
   ·cases h
theorem formalsR_end {p:Prog} {a b:List Formal} (h:formalsR p [] (a++b)=none):formalsR p a b=none:=by
 unfold formalsR at h ⊢
 cases h1:freshR p [] (a++b) with
 | some q=>rw [h1] at h;cases h
 | none =>
  rw [h1] at h
  have:=freshR_end p a [] b h1
  rw [List.nil_append] at this
  rw [this]
  exact boundR_end p (a++b) a b h
abbrev q1Ax:List Nat:=[0,1,2,3,5,6,7,8,9,10,27,50]
theorem law15_formals (haw:CallOK prog 8 [] (boolV true))(p:Prog)(env:List Formal)(s:Sig):CallOK prog 7 [prV p,.d (.slice (foR env)),siV s] (boolV true):=by
 have f1:=ok_Few06 p
 have f2:=ok_FewEnv env
 have f3:=ok_Few10 s
 by_cases b1:p.count≤600
 rotate_left
 ·rw [decide_eq_false b1] at f1
  refine cB func7 ?_
  refine sR q1Ax ?_
  refine sK fun K1 u1=>?_
  (refine sV q1Ax fun K z=>?_;refine cc haw ?_;refine cc f1 ?_;apply z;clear z K)
  refine tI ?_
  refine sC haw q1Ax ?_
  exact aR
 rw [decide_eq_true b1] at f1
 by_cases b2:(envProg env).count≤600
 rotate_left
 ·rw [decide_eq_false b2] at f2
  refine cB func7 ?_
  refine sR q1Ax ?_
  refine sK fun K1 u1=>?_
  (refine sV q1Ax fun K z=>?_;refine cc haw ?_;refine cc f1 ?_;refine cc f2 ?_;apply z;clear z K)
  refine tI ?_
  refine sC haw q1Ax ?_
  exact aR
 rw [decide_eq_true b2] at f2
 by_cases b3:(sigProg s).count≤600
 rotate_left
 ·rw [decide_eq_false b3] at f3
  refine cB func7 ?_
  refine sR q1Ax ?_
  refine sK fun K1 u1=>?_
  (refine sV q1Ax fun K z=>?_;refine cc haw ?_;refine cc f1 ?_;refine cc f2 ?_;refine cc f3 ?_;apply z;clear z K)
  refine tI ?_
  refine sC haw q1Ax ?_
  exact aR
 rw [decide_eq_true b3] at f3
 obtain⟨hp,hpl,h2⟩:=few_two b1
 obtain⟨e1,e2⟩:=few_env b2
 obtain⟨s1,s2⟩:=few_sig b3
 have hll:env.length+s.formals.length≤sm:=by unfold sm;omega
 have hal:(env++s.formals).length≤sm:=by rw [List.length_append];exact hll
 have hall:∀ f,f∈env++s.formals→f.Sm:=fun f hf=>by
  rcases List.mem_append.1 hf with h | h
  ·exact e2 f h
  ·exact s2.formals.2 f h
 have c1:=ok_DFormals p hp [] (env++s.formals) (by simpa using hal) (by simp) hall
 have c2:=ok_Formals15 p hp [] (env++s.formals) (by simpa using hal) (by simp) hall
 have c3:=ok_DFormals p hp env s.formals hll e2 s2.formals.2
 have t1:=ok_told15 (formalsR p [] (env++s.formals))
 have he:formalsR p [] (env++s.formals)=none→formalsR p env s.formals=none:=formalsR_end
 rw [show foR []=[] from rfl,show foR (env++s.formals)=foR env++foR s.formals by simp [foR]] at c1 c2
 generalize formalsR p [] (env++s.formals)=o1 at *
 generalize formalsR p env s.formals=o2 at *
 refine cB func7 ?_
 refine sR q1Ax ?_
 refine sK fun K1 u1=>?_
 (refine sV q1Ax fun K z=>?_;refine cc haw ?_;refine cc f1 ?_;refine cc f2 ?_;refine cc f3 ?_;apply z;clear z K)
 refine kI u1 ?_
 clear u1 K1
 refine sC (ok_New p hp) q1Ax ?_
 refine sR q1Ax ?_
 cases o1 with
 | none =>
  rw [he rfl] at c3
  simp only [errV,errD] at c1 c3 t1
  (refine AWp.seqR [0,1,2,3,5,6,7,8,9,10,27,34,50] [34,800039] (by decide +kernel) fun K z=>?_;refine ev ?_;refine⟨foR_row _,by unfold lim sm at *;omega,?_⟩;(try refine ev ?_);refine⟨foR_row _,by unfold lim sm at *;omega,?_⟩;(try refine ev ?_);refine⟨_,_,_,opB_lendD rfl rfl c1 rfl,?_⟩;(try refine ev ?_);apply z;clear z K)
  (refine AWp.seqDCA [0,1,2,3,5,6,7,8,9,10,27,41,50] [41,800046] 8 7 10 40 [.d (.int .i64 0),.d (.bool false),.d (.bool false)] 41 45 1 [1,3,5,6] [6] (fun _=>.agg [.d (.int .i64 0),.d (.bool false),.d (.bool false)]) (.acc 41) rfl mixed (by decide +kernel) (by decide +kernel) (by decide +kernel) ⟨by decide,⟨_,rfl,rfl,rfl,rfl⟩,by decide,(by first | exact TF40.2.2.1 | simp only [TF40])⟩ rfl (by decide) (by decide) ⟨5,by decide,by decide,by decide,rfl⟩ (by simp) rfl (by decide) rfl (fun _ _=>rfl) rfl fun K z=>?_;refine ev ?_;refine chVA_step0 (dst:=some 41) (e:=3) (i1:=2) (f:=(.acc 41)) (ps:=[41]) rfl rfl rfl rfl rfl rfl ?_;(try refine ev ?_);refine chKA_ok rfl rfl (by simp) ?_;(try refine ev ?_);refine chVA_step1 (dst:=some 43) (e:=5) (i1:=4) (f:=(.acc 41)) (ps:=[41]) rfl rfl rfl rfl rfl rfl ?_;(try refine ev ?_);refine⟨foR_row _,by unfold lim sm at *;omega,?_⟩;(try refine ev ?_);refine chKA_ok rfl rfl (by simp) ?_;(try refine ev ?_);refine chVA_step1 (dst:=some 45) (e:=6) (i1:=6) (f:=(.acc 41)) (ps:=[41]) rfl rfl rfl rfl rfl rfl ?_;(try refine ev ?_);refine⟨foR_row _,by unfold lim sm at *;omega,?_⟩;(try refine ev ?_);refine chKA_ok rfl rfl (by simp) ?_;(try refine ev ?_);refine chVA_step1 (dst:=some 46) (e:=7) (i1:=7) (f:=.agg [.d (.int .i64 0),.d (.bool false),.d (.bool false)]) (ps:=[]) rfl rfl rfl rfl rfl rfl ?_;(try refine ev ?_);refine⟨_,_,_,opB_lendD rfl rfl c2 rfl,?_⟩;(try refine ev ?_);refine chKA_ok rfl rfl (by simp) ?_;(try refine ev ?_);refine chVA_end rfl rfl rfl ?_;(try refine ev ?_);apply z;clear z K)
  refine kC t1 q1Ax fun K1 u1=>?_
  refine kI u1 ?_
  clear u1 K1
  refine sC c3 q1Ax ?_
  exact aR
 | some q =>
  simp only [errV,errD] at c1 c3 t1
  (refine AWp.seqR [0,1,2,3,5,6,7,8,9,10,27,34,50] [34,800039] (by decide +kernel) fun K z=>?_;refine ev ?_;refine⟨foR_row _,by unfold lim sm at *;omega,?_⟩;(try refine ev ?_);refine⟨foR_row _,by unfold lim sm at *;omega,?_⟩;(try refine ev ?_);refine⟨_,_,_,opB_lendD rfl rfl c1 rfl,?_⟩;(try refine ev ?_);apply z;clear z K)
  (refine AWp.seqDCA [0,1,2,3,5,6,7,8,9,10,27,41,50] [41,800046] 8 7 10 40 [.d (.int .i64 0),.d (.bool false),.d (.bool false)] 41 45 1 [1,3,5,6] [6] (fun _=>.agg [.d (.int .i64 q),.d (.bool true),.d (.bool false)]) (.acc 41) rfl mixed (by decide +kernel) (by decide +kernel) (by decide +kernel) ⟨by decide,⟨_,rfl,rfl,rfl,rfl⟩,by decide,(by first | exact TF40.2.2.1 | simp only [TF40])⟩ rfl (by decide) (by decide) ⟨5,by decide,by decide,by decide,rfl⟩ (by simp) rfl (by decide) rfl (fun _ _=>rfl) rfl fun K z=>?_;refine ev ?_;refine chVA_step0 (dst:=some 41) (e:=3) (i1:=2) (f:=(.acc 41)) (ps:=[41]) rfl rfl rfl rfl rfl rfl ?_;(try refine ev ?_);refine chKA_ok rfl rfl (by simp) ?_;(try refine ev ?_);refine chVA_step1 (dst:=some 43) (e:=5) (i1:=4) (f:=(.acc 41)) (ps:=[41]) rfl rfl rfl rfl rfl rfl ?_;(try refine ev ?_);refine⟨foR_row _,by unfold lim sm at *;omega,?_⟩;(try refine ev ?_);refine chKA_ok rfl rfl (by simp) ?_;(try refine ev ?_);refine chVA_step1 (dst:=some 45) (e:=6) (i1:=6) (f:=(.acc 41)) (ps:=[41]) rfl rfl rfl rfl rfl rfl ?_;(try refine ev ?_);refine⟨foR_row _,by unfold lim sm at *;omega,?_⟩;(try refine ev ?_);refine chKA_ok rfl rfl (by simp) ?_;(try refine ev ?_);refine chVA_step1 (dst:=some 46) (e:=7) (i1:=7) (f:=.agg [.d (.int .i64 q),.d (.bool true),.d (.bool false)]) (ps:=[]) rfl rfl rfl rfl rfl rfl ?_;(try refine ev ?_);refine⟨_,_,_,opB_lendD rfl rfl c2 rfl,?_⟩;(try refine ev ?_);refine chKA_ok rfl rfl (by simp) ?_;(try refine ev ?_);refine chVA_end rfl rfl rfl ?_;(try refine ev ?_);apply z;clear z K)
  refine kC t1 q1Ax fun K1 u1=>?_
  refine kI u1 ?_
  clear u1 K1
  refine sR q1Ax ?_
  exact aR
end Go.Abs
