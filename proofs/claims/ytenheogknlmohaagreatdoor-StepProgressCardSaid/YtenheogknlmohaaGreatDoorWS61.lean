/- the walk of StepProgress -/
import Derived.Test.YtenheogknlmohaaGreatDoorWS58
import Derived.Test.YtenheogknlmohaaGreatDoorWT05
import Derived.Test.YtenheogknlmohaaGreatDoorWS45
import Derived.Test.YtenheogknlmohaaGreatDoorWS34
namespace Go.Abs
set_option maxHeartbeats 1000000
set_option linter.unusedSimpArgs false
set_option linter.unusedVariables false
open Go Go.Proofs
set_option maxRecDepth 100000
set_option maxHeartbeats 4000000
theorem repl_Sm {vars:List Str} {vals:List Ex} (ha:∀ u,u∈vals→u.Sm):∀ e:Ex,e.Sm→(e.repl vars vals).Sm:=by
 intro e
 induction e using Ex.induct with | _ e ih=>?_
 intro he
 rw [erepl_eq]
 have hk:(e.kidded (e.kids.map (Ex.repl vars vals))).Sm:=.mk _ _ _ _ _ _ he.name he.type he.targs.1 he.targs.2 (by rw [List.length_map];exact he.kids.1) fun u hu=>by
  obtain⟨x,hx,rfl⟩:=List.mem_map.1 hu
  exact ih x hx (he.kids.2 x hx)
 unfold replG
 split
 ·cases hv:vals[(indexS (e.kidded (e.kids.map (Ex.repl vars vals))).name vars 0).toNat]? with
  | none=>exact hk
  | some u=>exact ha u (List.mem_of_getElem? hv)
 ·exact hk
theorem stepE_Sm {p:Prog} (h:p.Sm):∀ e:Ex,e.Sm→(stepE p e).1.Sm:=by
 intro e
 induction e using Ex.induct with | _ e ih=>?_
 intro he
 rw [stepE_eq]
 rcases stepL_cases p e.kids with ⟨_,hb⟩ | ⟨i,k,_,hi,_,_,hb⟩
 ·rw [hb]
  simp only
  unfold redexE
  split
  ·exact he
  ·split
   ·exact he
   ·rename_i v hv
    have hvs:=he.kids.2 v (List.mem_of_getElem? hv)
    split
    ·unfold callE
     split
     ·exact he
     ·rename_i d hd
      split
      ·exact repl_Sm he.kids.2 _ (Ex.Sm.subst (fun u hu=>(List.mem_append.1 hu).elim (hvs.type.arg u) (he.targs.2 u)) _ (h.decls.2 d (methD_mem hd)).body)
      ·exact he
    split
    ·unfold selE
     split
     ·simp only
      cases hx:v.kids[(idxF (fun f:Param=>decide (f.name=e.name)) (fieldsT p v.type)).toNat]? with
      | none=>exact hvs
      | some x=>exact hvs.kids.2 x (List.mem_of_getElem? hx)
     ·exact he
    split
    ·unfold asrtE
     split
     ·exact hvs
     ·exact he
    ·exact he
 ·rw [hb]
  simp only
  split
  ·refine .mk _ _ _ _ _ _ he.name he.type he.targs.1 he.targs.2 (by rw [List.length_set];exact he.kids.1) fun u hu=>?_
   rcases List.mem_or_eq_of_mem_set hu with hu | rfl
   ·exact he.kids.2 u hu
   ·exact ih k (List.mem_of_getElem? hi) (he.kids.2 k (List.mem_of_getElem? hi))
  ·exact he
abbrev q1wx:List Nat:=[0,1,2,3,4,6,8,35,45]
theorem law25_progress (p:Prog)(e:Ex):CallOK Tryz.prog 4 [prV p,exV e] (boolV true):=by
 have haw:=ok_awake25
 have hf1:=ok_Few06 p
 have hf2:=ok_Few05 e
 by_cases g1:p.count≤600
 rotate_left
 ·rw [decide_eq_false g1] at hf1
  (refine CallOK.of_body Tryz.func4 rfl (by decide) (by rw [Tryz.ntmps4];simp) ?_;rw [Tryz.ntmps4])
  refine sR q1wx ?_
  refine AWp.seqK fun K1 hK1=>?_
  (refine sQ q1wx fun K hK=>?_;refine ev ?_;refine⟨_,.inl ⟨_,rfl,haw,rfl⟩,?_⟩;(try refine ev ?_);refine⟨_,.inl ⟨_,rfl,hf1,rfl⟩,?_⟩;(try refine ev ?_);apply hK;clear hK K)
  refine AWp.takeIfK rfl ?_
  (refine sQ q1wx fun K hK=>?_;refine ev ?_;refine⟨_,.inl ⟨_,rfl,haw,rfl⟩,?_⟩;(try refine ev ?_);apply hK;clear hK K)
  exact AWp.ret ⟨_,by rw [Tryz.results4];rfl,rfl⟩
 rw [decide_eq_true g1] at hf1
 have hfit:=Prog.count_Fit p g1
 have hr1:=ok_Right06 p hfit.sm (Prog.count_Nn p g1)
 rcases Bool.eq_false_or_eq_true p.right with g2 | g2
 rotate_left
 ·rw [g2] at hr1
  (refine CallOK.of_body Tryz.func4 rfl (by decide) (by rw [Tryz.ntmps4];simp) ?_;rw [Tryz.ntmps4])
  refine sR q1wx ?_
  refine AWp.seqK fun K1 hK1=>?_
  (refine sQ q1wx fun K hK=>?_;refine ev ?_;refine⟨_,.inl ⟨_,rfl,haw,rfl⟩,?_⟩;(try refine ev ?_);refine⟨_,.inl ⟨_,rfl,hf1,rfl⟩,?_⟩;(try refine ev ?_);refine⟨_,.inl ⟨_,rfl,hr1,rfl⟩,?_⟩;(try refine ev ?_);apply hK;clear hK K)
  refine AWp.takeIfK rfl ?_
  (refine sQ q1wx fun K hK=>?_;refine ev ?_;refine⟨_,.inl ⟨_,rfl,haw,rfl⟩,?_⟩;(try refine ev ?_);apply hK;clear hK K)
  exact AWp.ret ⟨_,by rw [Tryz.results4];rfl,rfl⟩
 rw [g2] at hr1
 by_cases g3:e.count 0≤250
 rotate_left
 ·rw [decide_eq_false g3] at hf2
  (refine CallOK.of_body Tryz.func4 rfl (by decide) (by rw [Tryz.ntmps4];simp) ?_;rw [Tryz.ntmps4])
  refine sR q1wx ?_
  refine AWp.seqK fun K1 hK1=>?_
  (refine sQ q1wx fun K hK=>?_;refine ev ?_;refine⟨_,.inl ⟨_,rfl,haw,rfl⟩,?_⟩;(try refine ev ?_);refine⟨_,.inl ⟨_,rfl,hf1,rfl⟩,?_⟩;(try refine ev ?_);refine⟨_,.inl ⟨_,rfl,hr1,rfl⟩,?_⟩;(try refine ev ?_);refine⟨_,.inl ⟨_,rfl,hf2,rfl⟩,?_⟩;(try refine ev ?_);apply hK;clear hK K)
  refine AWp.takeIfK rfl ?_
  (refine sQ q1wx fun K hK=>?_;refine ev ?_;refine⟨_,.inl ⟨_,rfl,haw,rfl⟩,?_⟩;(try refine ev ?_);apply hK;clear hK K)
  exact AWp.ret ⟨_,by rw [Tryz.results4];rfl,rfl⟩
 rw [decide_eq_true g3] at hf2
 have hr2:=ok_Right05 e (Ex.count_Nn e 0 (by omega) (by omega))
 have hsm:e.Sm:=Ex.count_sm e 0 (by omega) (by omega)
 rcases Bool.eq_false_or_eq_true e.right with g4 | g4
 rotate_left
 ·rw [g4] at hr2
  (refine CallOK.of_body Tryz.func4 rfl (by decide) (by rw [Tryz.ntmps4];simp) ?_;rw [Tryz.ntmps4])
  refine sR q1wx ?_
  refine AWp.seqK fun K1 hK1=>?_
  (refine sQ q1wx fun K hK=>?_;refine ev ?_;refine⟨_,.inl ⟨_,rfl,haw,rfl⟩,?_⟩;(try refine ev ?_);refine⟨_,.inl ⟨_,rfl,hf1,rfl⟩,?_⟩;(try refine ev ?_);refine⟨_,.inl ⟨_,rfl,hr1,rfl⟩,?_⟩;(try refine ev ?_);refine⟨_,.inl ⟨_,rfl,hf2,rfl⟩,?_⟩;(try refine ev ?_);refine⟨_,.inl ⟨_,rfl,hr2,rfl⟩,?_⟩;(try refine ev ?_);apply hK;clear hK K)
  refine AWp.takeIfK rfl ?_
  (refine sQ q1wx fun K hK=>?_;refine ev ?_;refine⟨_,.inl ⟨_,rfl,haw,rfl⟩,?_⟩;(try refine ev ?_);apply hK;clear hK K)
  exact AWp.ret ⟨_,by rw [Tryz.results4];rfl,rfl⟩
 rw [g4] at hr2
 have hpr:=ok_Program17 p hfit true
 have hm0:(ctx0 p).Sm:=⟨hfit.sm,by simp,by simp,by simp,by simp⟩
 have hty:=ok_Type16 (ctx0 p) hm0 e hsm
 have hprog:=progress p e (typeE (ctx0 p) e).1 (Ex.right_One e g4)
 have htyp:=@typed_of (ctx0 p) e
 have hst:=ok_Step p hfit.sm e hsm
 have hv:=ok_Value e
 generalize progT p true=rp at *
 obtain⟨q,b,l⟩:=rp
 cases b with
 | true =>
  (refine CallOK.of_body Tryz.func4 rfl (by decide) (by rw [Tryz.ntmps4];simp) ?_;rw [Tryz.ntmps4])
  refine sR q1wx ?_
  refine AWp.seqK fun K1 hK1=>?_
  (refine sQ q1wx fun K hK=>?_;refine ev ?_;refine⟨_,.inl ⟨_,rfl,haw,rfl⟩,?_⟩;(try refine ev ?_);refine⟨_,.inl ⟨_,rfl,hf1,rfl⟩,?_⟩;(try refine ev ?_);refine⟨_,.inl ⟨_,rfl,hr1,rfl⟩,?_⟩;(try refine ev ?_);refine⟨_,.inl ⟨_,rfl,hf2,rfl⟩,?_⟩;(try refine ev ?_);refine⟨_,.inl ⟨_,rfl,hr2,rfl⟩,?_⟩;(try refine ev ?_);refine⟨_,.inl ⟨_,rfl,hpr,rfl⟩,?_⟩;(try refine ev ?_);apply hK;clear hK K)
  refine AWp.takeIfK rfl ?_
  (refine sQ q1wx fun K hK=>?_;refine ev ?_;refine⟨_,.inl ⟨_,rfl,haw,rfl⟩,?_⟩;(try refine ev ?_);apply hK;clear hK K)
  exact AWp.ret ⟨_,by rw [Tryz.results4];rfl,rfl⟩
 | false =>
  (refine CallOK.of_body Tryz.func4 rfl (by decide) (by rw [Tryz.ntmps4];simp) ?_;rw [Tryz.ntmps4])
  refine sR q1wx ?_
  refine AWp.seqK fun K1 hK1=>?_
  (refine sQ q1wx fun K hK=>?_;refine ev ?_;refine⟨_,.inl ⟨_,rfl,haw,rfl⟩,?_⟩;(try refine ev ?_);refine⟨_,.inl ⟨_,rfl,hf1,rfl⟩,?_⟩;(try refine ev ?_);refine⟨_,.inl ⟨_,rfl,hr1,rfl⟩,?_⟩;(try refine ev ?_);refine⟨_,.inl ⟨_,rfl,hf2,rfl⟩,?_⟩;(try refine ev ?_);refine⟨_,.inl ⟨_,rfl,hr2,rfl⟩,?_⟩;(try refine ev ?_);refine⟨_,.inl ⟨_,rfl,hpr,rfl⟩,?_⟩;(try refine ev ?_);apply hK;clear hK K)
  refine AWp.skipIfK rfl hK1 ?_
  clear hK1 K1
  have hst:=hst (stepE_Sm hfit.sm e hsm)
  generalize typeE (ctx0 p) e=z at *
  obtain⟨x,⟨q2,b2,l2⟩⟩:=z
  cases b2 with
  | true =>
   (refine sQ q1wx fun K hK=>?_;refine ev ?_;refine⟨_,.inl ⟨_,rfl,hty,rfl⟩,?_⟩;(try refine ev ?_);apply hK;clear hK K)
   refine AWp.seqK fun K1 hK1=>?_
   refine sR q1wx ?_
   refine AWp.takeIfK rfl ?_
   refine sR q1wx ?_
   exact AWp.ret ⟨_,by rw [Tryz.results4];rfl,rfl⟩
  | false =>
   obtain⟨p1,p2⟩:=hprog (htyp rfl)
   generalize stepE p e=r at *
   obtain⟨y,o⟩:=r
   simp only at p1 p2
   (refine sQ q1wx fun K hK=>?_;refine ev ?_;refine⟨_,.inl ⟨_,rfl,hty,rfl⟩,?_⟩;(try refine ev ?_);apply hK;clear hK K)
   refine AWp.seqK fun K1 hK1=>?_
   refine sR q1wx ?_
   refine AWp.skipIfK rfl hK1 ?_
   clear hK1 K1
   (refine sQ q1wx fun K hK=>?_;refine ev ?_;refine⟨_,.inl ⟨_,rfl,hst,rfl⟩,?_⟩;(try refine ev ?_);apply hK;clear hK K)
   have q1:(true == true)=true:=rfl
   have q4:(false == false)=true:=rfl
   rcases Bool.eq_false_or_eq_true (isVal e) with hvv | hvv
   ·rw [hvv] at hv
    have d2:=decide_eq_true (p2.2 hvv)
    (refine sQ q1wx fun K hK=>?_;refine ev2 p1 d2 ?_;refine⟨_,.inl ⟨_,rfl,hv,rfl⟩,?_⟩;(try refine ev1 q1 ?_);apply hK;clear hK K)
    exact AWp.ret ⟨_,by rw [Tryz.results4];rfl,rfl⟩
   ·rw [hvv] at hv
    have n2:¬ o=2:=fun h=>by have:=p2.1 h;rw [hvv] at this;cases this
    (refine sQ q1wx fun K hK=>?_;refine ev2 p1 n2 ?_;refine⟨_,.inl ⟨_,rfl,hv,rfl⟩,?_⟩;(try refine ev1 q4 ?_);apply hK;clear hK K)
    exact AWp.ret ⟨_,by rw [Tryz.results4];rfl,rfl⟩
end Go.Abs
