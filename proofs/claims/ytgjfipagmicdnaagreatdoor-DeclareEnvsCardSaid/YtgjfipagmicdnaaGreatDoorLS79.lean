/- comparing with offsets: what is compared with itself; the walk of DeclareEnvs, given awake -/
import Derived.Test.YtgjfipagmicdnaaGreatDoorLS78
import Derived.Test.YtgjfipagmicdnaaGreatDoorLS43
namespace Go.Abs
set_option linter.unusedSimpArgs false
set_option linter.unusedVariables false
open Go Go.Proofs Tryz
set_option maxRecDepth 100000
set_option maxHeartbeats 1000000
abbrev q1Kx:List Nat:=[0,1,2,3,4,5,26,31,45]
theorem ok_TEq:∀ t:Ty,t.Sm→CallOK prog 112 [tyV t,tyV t] (boolV true):=by
 intro t
 induction t using Ty.induct with
 | h t ih =>
 intro h
 have hl:=h.len
 refine cB func112 ?_
 refine sR q1Kx ?_
 (refine AWp.freeze 2 rfl rfl ?_;refine AWp.freeze 3 rfl rfl (wk [(2,.dptr (tyC t) 0),(3,.dptr (tyC t) 0)] [] ?_))
 refine kR q1Kx fun K1 u1=>?_
 refine kI u1 ?_
 clear u1 K1
 refine kR q1Kx fun K1 u1=>?_
 refine AWp.block (AWp.forIdx t.args (X:=Unit) (fun j _=>[(2,.dptr (tyC t) 0),(3,.dptr (tyC t) 0),(5,intV j)]) (fun _ _=>[]) (fun j _=>True) () trivial (by simp [sle,vle,sget,tyC,]) sB ?_ ?_)
 rotate_left
 ·intro j _ u hu hmem dp tk hlt _
  have hi:=ih u hmem (h.arg u hmem)
  refine kR1 hlt q1Kx fun K2 u2=>?_
  refine gI u2 ?_
  clear u2 K2
  refine sK fun K2 u2=>?_
  refine AWp.block ?_
  (refine sD q1Kx [] 12 mixed fun K z=>?_;refine ev ?_;refine ci (tyR_get hu) ?_;refine ci (tyR_get hu) ?_;refine cc hi ?_;apply z;clear z K)
  refine AWp.condF rfl (AWp.skip (u2 _ _ ?_))
  clear u2 K2
  refine lT q1Kx ?_
  exact⟨(),trivial,(by simp [sle,vle,sget,tyC,]),sB⟩
 intro _ _
 refine kR1 Int.lt_irrefl q1Kx fun K2 u2=>?_
 refine AWp.stopK rfl ?_
 simp only [thenA,blockA,if_true]
 refine u1 _ _ ?_
 refine sR q1Kx ?_
 exact aR
abbrev q2Kx:List Nat:=[0,1,2,6,7,12,16,43,71]
theorem ok_FormalsX (l:List Formal)(hl:l.length≤sm)(hs:∀ x,x∈l→x.Sm):CallOK prog 58 [.d (.slice (foR l)),.d (.slice (foR l)),boolV true] (boolV true):=by
 refine cB func58 ?_
 refine sR q2Kx ?_
 refine kR q2Kx fun K1 u1=>?_
 refine kI u1 ?_
 clear u1 K1
 refine kR q2Kx fun K1 u1=>?_
 refine AWp.block (AWp.forIdx l (X:=Unit) (fun j _=>[(0,.d (.slice (foR l))),(1,.d (.slice (foR l))),(2,boolV true),(7,intV j)]) (fun _ _=>[]) (fun j _=>True) () trivial sS sB ?_ ?_)
 rotate_left
 ·intro j _ d hd hmem dp tk hlt _
  have h1:=ok_RSame d.bound d.bound (hs d hmem).bound
  have h2:=ok_TEq d.bound (hs d hmem).bound
  rw [sameT_refl] at h1
  refine kR1 hlt q2Kx fun K2 u2=>?_
  refine gI u2 ?_
  clear u2 K2
  refine sK fun K2 u2=>?_
  refine AWp.block ?_
  refine sK fun K3 u3=>?_
  (refine sD q2Kx [] 25 mixed fun K z=>?_;refine ev ?_;refine ci (foR_get hd) ?_;refine ci (foR_get hd) ?_;refine ci (foR_get hd) ?_;refine ci (foR_get hd) ?_;refine cc h1 ?_;apply z;clear z K)
  refine kI u3 ?_
  clear u3 K3
  (refine sD q2Kx [] 28 mixed fun K z=>?_;refine ev ?_;refine ci (foR_get hd) ?_;refine ci (foR_get hd) ?_;refine ci (foR_get hd) ?_;refine ci (foR_get hd) ?_;refine cc h2 ?_;apply z;clear z K)
  refine AWp.condF rfl (AWp.skip (u2 _ _ ?_))
  clear u2 K2
  refine lT q2Kx ?_
  exact⟨(),trivial,sS,sB⟩
 intro _ _
 refine kR1 Int.lt_irrefl q2Kx fun K2 u2=>?_
 refine AWp.stopK rfl ?_
 simp only [thenA,blockA,if_true]
 refine u1 _ _ ?_
 refine sR q2Kx ?_
 exact aR
abbrev q3Kx:List Nat:=[0,1,2,6,7,12,16,43,71]
theorem ok_ParamsX (l:List Param)(hl:l.length≤sm)(hs:∀ x,x∈l→x.Sm):CallOK prog 59 [.d (.slice (paR l)),.d (.slice (paR l)),boolV true] (boolV true):=by
 refine cB func59 ?_
 refine sR q3Kx ?_
 refine kR q3Kx fun K1 u1=>?_
 refine kI u1 ?_
 clear u1 K1
 refine kR q3Kx fun K1 u1=>?_
 refine AWp.block (AWp.forIdx l (X:=Unit) (fun j _=>[(0,.d (.slice (paR l))),(1,.d (.slice (paR l))),(2,boolV true),(7,intV j)]) (fun _ _=>[]) (fun j _=>True) () trivial sS sB ?_ ?_)
 rotate_left
 ·intro j _ d hd hmem dp tk hlt _
  have h1:=ok_RSame d.type d.type (hs d hmem).type
  have h2:=ok_TEq d.type (hs d hmem).type
  rw [sameT_refl] at h1
  refine kR1 hlt q3Kx fun K2 u2=>?_
  refine gI u2 ?_
  clear u2 K2
  refine sK fun K2 u2=>?_
  refine AWp.block ?_
  refine sK fun K3 u3=>?_
  (refine sD q3Kx [] 25 mixed fun K z=>?_;refine ev ?_;refine ci (paR_get hd) ?_;refine ci (paR_get hd) ?_;refine ci (paR_get hd) ?_;refine ci (paR_get hd) ?_;refine cc h1 ?_;apply z;clear z K)
  refine kI u3 ?_
  clear u3 K3
  (refine sD q3Kx [] 28 mixed fun K z=>?_;refine ev ?_;refine ci (paR_get hd) ?_;refine ci (paR_get hd) ?_;refine ci (paR_get hd) ?_;refine ci (paR_get hd) ?_;refine cc h2 ?_;apply z;clear z K)
  refine AWp.condF rfl (AWp.skip (u2 _ _ ?_))
  clear u2 K2
  refine lT q3Kx ?_
  exact⟨(),trivial,sS,sB⟩
 intro _ _
 refine kR1 Int.lt_irrefl q3Kx fun K2 u2=>?_
 refine AWp.stopK rfl ?_
 simp only [thenA,blockA,if_true]
 refine u1 _ _ ?_
 refine sR q3Kx ?_
 exact aR
theorem ok_SigX (s:Sig)(h:s.Sm):CallOK prog 60 [siV s,siV s,boolV true] (boolV true):=by
 have h1:=ok_FormalsX s.formals h.formals.1 h.formals.2
 have h2:=ok_ParamsX s.params h.params.1 h.params.2
 have h3:=ok_RSame s.result s.result h.result
 have h4:=ok_TEq s.result h.result
 rw [sameT_refl] at h3
 refine cB func60 ?_
 refine sR [0,1,2,3,4,6,37] ?_
 refine sK fun K1 u1=>?_
 (refine sV [0,1,2,3,4,6,37] fun K z=>?_;refine cc h1 ?_;refine cc h2 ?_;refine cc h3 ?_;apply z;clear z K)
 refine kI u1 ?_
 clear u1 K1
 refine sC h4 [0,1,2,3,4,6,37] ?_
 exact aR
abbrev q4Kx:List Nat:=[0,1,2,3,4,5,6,51,56,70,75,89]
theorem ok_EEq:∀ e:Ex,e.Sm→CallOK prog 62 [exV e,exV e] (boolV true):=by
 intro e
 induction e using Ex.induct with
 | h e ih =>
 intro h
 have hl1:=h.targs.1
 have hl2:=h.kids.1
 have h1:=ok_TEq e.type h.type
 refine cB func62 ?_
 refine sR q4Kx ?_
 (refine AWp.freeze 2 rfl rfl ?_;refine AWp.freeze 3 rfl rfl (wk [(2,.dptr (exC e) 0),(3,.dptr (exC e) 0)] [] ?_))
 refine kC h1 q4Kx fun K1 u1=>?_
 refine kI u1 ?_
 clear u1 K1
 refine kR q4Kx fun K1 u1=>?_
 refine AWp.block (AWp.forIdx e.targs (X:=Unit) (fun j _=>[(2,.dptr (exC e) 0),(3,.dptr (exC e) 0),(5,intV j)]) (fun _ _=>[]) (fun j _=>True) () trivial (by simp [sle,vle,sget,exC,]) sB ?_ ?_)
 rotate_left
 ·intro j _ u hu hmem dp tk hlt _
  have hi:=ok_TEq u (h.targs.2 u hmem)
  refine kR1 hlt q4Kx fun K2 u2=>?_
  refine gI u2 ?_
  clear u2 K2
  refine sK fun K2 u2=>?_
  refine AWp.block ?_
  (refine sD q4Kx [] 12 mixed fun K z=>?_;refine ev ?_;refine ci (tyR_get hu) ?_;refine ci (tyR_get hu) ?_;refine cc hi ?_;apply z;clear z K)
  refine AWp.condF rfl (AWp.skip (u2 _ _ ?_))
  clear u2 K2
  refine lT q4Kx ?_
  exact⟨(),trivial,(by simp [sle,vle,sget,exC,]),sB⟩
 intro _ _
 refine kR1 Int.lt_irrefl q4Kx fun K2 u2=>?_
 refine AWp.stopK rfl ?_
 simp only [thenA,blockA,if_true]
 refine u1 _ _ ?_
 clear u2 K2 u1 K1
 refine kR q4Kx fun K1 u1=>?_
 refine AWp.block (AWp.forIdx e.kids (X:=Unit) (fun j _=>[(2,.dptr (exC e) 0),(3,.dptr (exC e) 0),(6,intV j)]) (fun _ _=>[]) (fun j _=>True) () trivial (by simp [sle,vle,sget,exC,]) sB ?_ ?_)
 rotate_left
 ·intro j _ u hu hmem dp tk hlt _
  have hi:=ih u hmem (h.kids.2 u hmem)
  refine kR1 hlt q4Kx fun K2 u2=>?_
  refine gI u2 ?_
  clear u2 K2
  refine sK fun K2 u2=>?_
  refine AWp.block ?_
  (refine sD q4Kx [] 12 mixed fun K z=>?_;refine ev ?_;refine ci (exR_get hu) ?_;refine ci (exR_get hu) ?_;refine cc hi ?_;apply z;clear z K)
  refine AWp.condF rfl (AWp.skip (u2 _ _ ?_))
  clear u2 K2
  refine lT q4Kx ?_
  exact⟨(),trivial,(by simp [sle,vle,sget,exC,]),sB⟩
 intro _ _
 refine kR1 Int.lt_irrefl q4Kx fun K2 u2=>?_
 refine AWp.stopK rfl ?_
 simp only [thenA,blockA,if_true]
 refine u1 _ _ ?_
 refine sR q4Kx ?_
 exact aR
abbrev q5Kx:List Nat:=[0,1,2,3,4,6,7,8,63,68,83,88,101,116]
set_option maxHeartbeats 4000000 in
theorem ok_DeclX (d:Decl)(h:d.Sm)(hb:d.body.Sm):CallOK prog 22 [deV d,deV d,boolV true] (boolV true):=by
 have hl1:=h.sigs.1
 have hl2:=h.vars.1
 have h1:=ok_FormalsX d.formals h.formals.1 h.formals.2
 have h2:=ok_ParamsX d.fields h.fields.1 h.fields.2
 have h3:=ok_SigX d.sig h.sig
 have h4:=ok_RefSame d.body hb d.body
 have h5:=ok_EEq d.body hb
 rw [sameE_refl] at h4
 refine cB func22 ?_
 refine sR q5Kx ?_
 (refine AWp.freeze 3 rfl rfl ?_;refine AWp.freeze 4 rfl rfl (wk [(2,boolV true),(3,.dptr (deC d) 0),(4,.dptr (deC d) 0)] [] ?_))
 refine sK fun K1 u1=>?_
 (refine sV q5Kx fun K z=>?_;refine cc h1 ?_;refine cc h2 ?_;apply z;clear z K)
 refine kI u1 ?_
 clear u1 K1
 refine kR q5Kx fun K1 u1=>?_
 refine AWp.block (AWp.forIdx d.sigs (X:=Unit) (fun j _=>[(2,boolV true),(3,.dptr (deC d) 0),(4,.dptr (deC d) 0),(7,intV j)]) (fun _ _=>[]) (fun j _=>True) () trivial (by simp [sle,vle,sget,deC]) sB ?_ ?_)
 rotate_left
 ·intro j _ u hu hmem dp tk hlt _
  have hi:=ok_SigX u (h.sigs.2 u hmem)
  refine kR1 hlt q5Kx fun K2 u2=>?_
  refine gI u2 ?_
  clear u2 K2
  refine sK fun K2 u2=>?_
  refine AWp.block ?_
  (refine sD q5Kx [] 13 mixed fun K z=>?_;refine ev ?_;refine ci (siR_get hu) ?_;refine ci (siR_get hu) ?_;refine cc hi ?_;apply z;clear z K)
  refine AWp.condF rfl (AWp.skip (u2 _ _ ?_))
  clear u2 K2
  refine lT q5Kx ?_
  exact⟨(),trivial,(by simp [sle,vle,sget,deC]),sB⟩
 intro _ _
 refine kR1 Int.lt_irrefl q5Kx fun K2 u2=>?_
 refine AWp.stopK rfl ?_
 simp only [thenA,blockA,if_true]
 refine u1 _ _ ?_
 clear u2 K2 u1 K1
 refine kR q5Kx fun K1 u1=>?_
 refine AWp.block (AWp.forIdx d.vars (X:=Unit) (fun j _=>[(2,boolV true),(3,.dptr (deC d) 0),(4,.dptr (deC d) 0),(8,intV j)]) (fun _ _=>[]) (fun j _=>True) () trivial (by simp [sle,vle,sget,deC]) sB ?_ ?_)
 rotate_left
 ·intro j _ u hu hmem dp tk hlt _
  refine kR1 hlt q5Kx fun K2 u2=>?_
  refine gI u2 ?_
  clear u2 K2
  refine sK fun K2 u2=>?_
  refine AWp.block ?_
  (refine sD q5Kx [] 11 mixed fun K z=>?_;refine ev ?_;refine ci (strR_get hu) ?_;refine ci (strR_get hu) ?_;apply z;clear z K)
  refine AWp.condF rfl (AWp.skip (u2 _ _ ?_))
  clear u2 K2
  refine lT q5Kx ?_
  exact⟨(),trivial,(by simp [sle,vle,sget,deC]),sB⟩
 intro _ _
 refine kR1 Int.lt_irrefl q5Kx fun K2 u2=>?_
 refine AWp.stopK rfl ?_
 simp only [thenA,blockA,if_true]
 refine u1 _ _ ?_
 clear u2 K2 u1 K1
 refine sK fun K1 u1=>?_
 (refine sV q5Kx fun K z=>?_;refine cc h3 ?_;refine cc h4 ?_;apply z;clear z K)
 refine kI u1 ?_
 clear u1 K1
 refine sC h5 q5Kx ?_
 exact aR
abbrev q6Kx:List Nat:=[0,1,2,3,4,18]
theorem law15_envs (haw:CallOK prog 8 [] (boolV true))(p:Prog)(d:Decl):CallOK prog 5 [prV p,deV d] (boolV true):=by
 have f1:=ok_Few06 p
 have f2:=ok_Few06 ⟨[d],default⟩
 by_cases b1:p.count≤600
 rotate_left
 ·rw [decide_eq_false b1] at f1
  refine cB func5 ?_
  refine sR q6Kx ?_
  refine sK fun K1 u1=>?_
  (refine sV q6Kx fun K z=>?_;refine cc haw ?_;refine cc f1 ?_;apply z;clear z K)
  refine tI ?_
  refine sC haw q6Kx ?_
  exact aR
 rw [decide_eq_true b1] at f1
 by_cases b2:(⟨[d],default⟩:Prog).count≤600
 rotate_left
 ·rw [decide_eq_false b2] at f2
  refine cB func5 ?_
  refine sR q6Kx ?_
  refine sK fun K1 u1=>?_
  (refine sV q6Kx fun K z=>?_;refine cc haw ?_;refine cc f1 ?_;refine cc f2 ?_;apply z;clear z K)
  refine tI ?_
  refine sC haw q6Kx ?_
  exact aR
 rw [decide_eq_true b2] at f2
 obtain⟨hp,hpl,h2⟩:=few_two b1
 have hd:d.Sm:=(few_two b2).1.decls.2 d (by simp)
 have c1:=ok_DEnv p hp d hd
 have c2:=ok_Env15 p hp d hd
 have hel:=envR_len p d
 have hvl:=hd.vars.1
 have hz:(default:Decl).Sm:=(few_two (p:=⟨[default],default⟩) (by decide +kernel)).1.decls.2 default (by simp)
 have h0:({ (default:Decl) with formals:=envR p d }:Decl).Sm:=⟨hz.name,⟨by show (envR p d).length≤sm;omega,envR_Sm hp hd⟩,hz.fields,hz.sigs,hz.recv,hz.vars,hz.sig,hz.body⟩
 have c3:=ok_DeclX { (default:Decl) with formals:=envR p d } h0 hz.body
 refine cB func5 ?_
 refine sR q6Kx ?_
 refine sK fun K1 u1=>?_
 (refine sV q6Kx fun K z=>?_;refine cc haw ?_;refine cc f1 ?_;refine cc f2 ?_;apply z;clear z K)
 refine kI u1 ?_
 clear u1 K1
 (refine sD q6Kx [] 11 mixed fun K z=>?_;refine ev ?_;refine cc (ok_New p hp) ?_;refine cc c1 ?_;refine cc c2 ?_;refine cc c3 ?_;apply z;clear z K)
 exact aR
end Go.Abs
