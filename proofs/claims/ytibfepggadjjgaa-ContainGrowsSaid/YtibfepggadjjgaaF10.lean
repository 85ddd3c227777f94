/- Clones of declarations -/
import Derived.Test.YtibfepggadjjgaaF09
namespace Go.Abs
set_option linter.unusedSimpArgs false
set_option linter.unusedVariables false
open Go Go.Proofs
set_option maxRecDepth 100000
set_option maxHeartbeats 1000000

structure Formal.Sm (f : Formal) : Prop where
  name : f.name.length ≤ sm
  bound : f.bound.Sm
structure Param.Sm (f : Param) : Prop where
  name : f.name.length ≤ sm
  type : f.type.Sm
structure Sig.Sm (s : Sig) : Prop where
  name : s.name.length ≤ sm
  formals : s.formals.length ≤ sm ∧ ∀ t, t ∈ s.formals → t.Sm
  params : s.params.length ≤ sm ∧ ∀ t, t ∈ s.params → t.Sm
  result : s.result.Sm
structure Decl.Sm (d : Decl) : Prop where
  name : d.name.length ≤ sm
  formals : d.formals.length ≤ sm ∧ ∀ t, t ∈ d.formals → t.Sm
  fields : d.fields.length ≤ sm ∧ ∀ t, t ∈ d.fields → t.Sm
  sigs : d.sigs.length ≤ sm ∧ ∀ t, t ∈ d.sigs → t.Sm
  recv : d.recv.length ≤ sm
  vars : d.vars.length ≤ sm ∧ ∀ t, t ∈ d.vars → t.length ≤ sm
  sig : d.sig.Sm
  body : d.body.Sm
structure Prog.Sm (p : Prog) : Prop where
  decls : p.decls.length ≤ sm ∧ ∀ t, t ∈ p.decls → t.Sm
  main : p.main.Sm

theorem ok_cloneFormal (x : Formal) (h : x.Sm) : CallOK Try.prog 52 [foV x] (foV x) := by
  (refine CallOK.of_body Try.func52 rfl (by decide) (by rw [Try.ntmps52]; simp) ?_; rw [Try.ntmps52])
  (refine AWp.seqR [0, 1, 2] [] (by decide +kernel) fun K hK => ?_; simp -implicitDefEqProofs only [EV, forall_const, implies_true, Nat.reduceAdd, Nat.reduceEqDiff, Nat.reduceBEq, Nat.reduceLeDiff, Nat.reduceSub, Nat.reduceMul, Int.reduceEq, Int.reduceLT, Int.reduceLE, Int.reduceSub, Int.reduceAdd, Int.reduceToNat, reduceCtorEq, Int.reduceNeg, TF3, TF4, TF9, TF25, TF55]; refine hK _ _ ?_; clear hK K)
  (refine AWp.seqR [0, 1, 2] [] (by decide +kernel) fun K hK => ?_; simp -implicitDefEqProofs only [EV, forall_const, implies_true, Nat.reduceAdd, Nat.reduceEqDiff, Nat.reduceBEq, Nat.reduceLeDiff, Nat.reduceSub, Nat.reduceMul, Int.reduceEq, Int.reduceLT, Int.reduceLE, Int.reduceSub, Int.reduceAdd, Int.reduceToNat, reduceCtorEq, Int.reduceNeg, TF3, TF4, TF9, TF25, TF55])
  refine ⟨tyV x.bound, .inl ⟨_, rfl, ok_Clone x.bound h.bound, rfl⟩, ?_⟩
  simp -implicitDefEqProofs only [EV, forall_const, implies_true, Nat.reduceAdd, Nat.reduceEqDiff, Nat.reduceBEq, Nat.reduceLeDiff, Nat.reduceSub, Nat.reduceMul, Int.reduceEq, Int.reduceLT, Int.reduceLE, Int.reduceSub, Int.reduceAdd, Int.reduceToNat, reduceCtorEq, Int.reduceNeg, TF3, TF4, TF9, TF25, TF55]
  (refine hK _ _ ?_; clear hK K)
  (refine AWp.seqR [0, 1, 2] [] (by decide +kernel) fun K hK => ?_; simp -implicitDefEqProofs only [EV, forall_const, implies_true, Nat.reduceAdd, Nat.reduceEqDiff, Nat.reduceBEq, Nat.reduceLeDiff, Nat.reduceSub, Nat.reduceMul, Int.reduceEq, Int.reduceLT, Int.reduceLE, Int.reduceSub, Int.reduceAdd, Int.reduceToNat, reduceCtorEq, Int.reduceNeg, TF3, TF4, TF9, TF25, TF55]; refine hK _ _ ?_; clear hK K)
  exact AWp.ret ⟨_, by rw [Try.results52]; rfl, rfl⟩
theorem ok_cloneParam (x : Param) (h : x.Sm) : CallOK Try.prog 54 [paV x] (paV x) := by
  (refine CallOK.of_body Try.func54 rfl (by decide) (by rw [Try.ntmps54]; simp) ?_; rw [Try.ntmps54])
  (refine AWp.seqR [0, 1, 2] [] (by decide +kernel) fun K hK => ?_; simp -implicitDefEqProofs only [EV, forall_const, implies_true, Nat.reduceAdd, Nat.reduceEqDiff, Nat.reduceBEq, Nat.reduceLeDiff, Nat.reduceSub, Nat.reduceMul, Int.reduceEq, Int.reduceLT, Int.reduceLE, Int.reduceSub, Int.reduceAdd, Int.reduceToNat, reduceCtorEq, Int.reduceNeg, TF3, TF4, TF9, TF25, TF53]; refine hK _ _ ?_; clear hK K)
  (refine AWp.seqR [0, 1, 2] [] (by decide +kernel) fun K hK => ?_; simp -implicitDefEqProofs only [EV, forall_const, implies_true, Nat.reduceAdd, Nat.reduceEqDiff, Nat.reduceBEq, Nat.reduceLeDiff, Nat.reduceSub, Nat.reduceMul, Int.reduceEq, Int.reduceLT, Int.reduceLE, Int.reduceSub, Int.reduceAdd, Int.reduceToNat, reduceCtorEq, Int.reduceNeg, TF3, TF4, TF9, TF25, TF53])
  refine ⟨tyV x.type, .inl ⟨_, rfl, ok_Clone x.type h.type, rfl⟩, ?_⟩
  simp -implicitDefEqProofs only [EV, forall_const, implies_true, Nat.reduceAdd, Nat.reduceEqDiff, Nat.reduceBEq, Nat.reduceLeDiff, Nat.reduceSub, Nat.reduceMul, Int.reduceEq, Int.reduceLT, Int.reduceLE, Int.reduceSub, Int.reduceAdd, Int.reduceToNat, reduceCtorEq, Int.reduceNeg, TF3, TF4, TF9, TF25, TF53]
  (refine hK _ _ ?_; clear hK K)
  (refine AWp.seqR [0, 1, 2] [] (by decide +kernel) fun K hK => ?_; simp -implicitDefEqProofs only [EV, forall_const, implies_true, Nat.reduceAdd, Nat.reduceEqDiff, Nat.reduceBEq, Nat.reduceLeDiff, Nat.reduceSub, Nat.reduceMul, Int.reduceEq, Int.reduceLT, Int.reduceLE, Int.reduceSub, Int.reduceAdd, Int.reduceToNat, reduceCtorEq, Int.reduceNeg, TF3, TF4, TF9, TF25, TF53]; refine hK _ _ ?_; clear hK K)
  exact AWp.ret ⟨_, by rw [Try.results54]; rfl, rfl⟩
theorem ok_copiesF (f : FuncId) (l : List Formal) (hl : l.length ≤ sm) (hs : ∀ t, t ∈ l → CallOK Try.prog f [foV t] (foV t)) :
    CallOK Try.prog 51 [.d (.slice (foR l)), .clo f []] (.d (.slice (foR l))) := by
  (refine CallOK.of_body Try.func51 rfl (by decide) (by rw [Try.ntmps51]; simp) ?_; rw [Try.ntmps51])
  (refine AWp.seqR [0, 1, 4, 5, 7, 8, 9, 10, 11] [] (by decide +kernel) fun K hK => ?_; simp -implicitDefEqProofs only [EV, forall_const, implies_true, Nat.reduceAdd, Nat.reduceEqDiff, Nat.reduceBEq, Nat.reduceLeDiff, Nat.reduceSub, Nat.reduceMul, Int.reduceEq, Int.reduceLT, Int.reduceLE, Int.reduceSub, Int.reduceAdd, Int.reduceToNat, reduceCtorEq, Int.reduceNeg, TF3, TF4, TF9, TF43, TF55]; refine hK _ _ ?_; clear hK K)
  (refine AWp.seqR [0, 1, 4, 5, 7, 8, 9, 10, 11] [] (by decide +kernel) fun K hK => ?_; simp -implicitDefEqProofs only [EV, forall_const, implies_true, Nat.reduceAdd, Nat.reduceEqDiff, Nat.reduceBEq, Nat.reduceLeDiff, Nat.reduceSub, Nat.reduceMul, Int.reduceEq, Int.reduceLT, Int.reduceLE, Int.reduceSub, Int.reduceAdd, Int.reduceToNat, reduceCtorEq, Int.reduceNeg, TF3, TF4, TF9, TF43, TF55]; refine hK _ _ ?_; clear hK K)
  refine AWp.promote 5 5 5 rfl ?_
  refine AWp.seqK fun K1 hK1 => ?_
  have fin : ∀ sl bx, sle sl [(5, .acc 5)] → ble bx [(5, .rows 5 (foR l))] → K1 sl bx := by
    intro sl bx h1 h2
    refine hK1 _ _ (AWp.weaken h1 h2 ?_)
    clear hK1 K1
    (refine AWp.seqR [0, 1, 4, 5, 7, 8, 9, 10, 11] [] (by decide +kernel) fun K hK => ?_; simp -implicitDefEqProofs only [EV, forall_const, implies_true, Nat.reduceAdd, Nat.reduceEqDiff, Nat.reduceBEq, Nat.reduceLeDiff, Nat.reduceSub, Nat.reduceMul, Int.reduceEq, Int.reduceLT, Int.reduceLE, Int.reduceSub, Int.reduceAdd, Int.reduceToNat, reduceCtorEq, Int.reduceNeg, TF3, TF4, TF9, TF43, TF55]; refine hK _ _ ?_; clear hK K)
    exact AWp.ret ⟨_, by rw [Try.results51]; rfl, rfl⟩
  (refine AWp.seqR [0, 1, 4, 5, 7, 8, 9, 10, 11] [] (by decide +kernel) fun K hK => ?_; simp -implicitDefEqProofs only [EV, forall_const, implies_true, Nat.reduceAdd, Nat.reduceEqDiff, Nat.reduceBEq, Nat.reduceLeDiff, Nat.reduceSub, Nat.reduceMul, Int.reduceEq, Int.reduceLT, Int.reduceLE, Int.reduceSub, Int.reduceAdd, Int.reduceToNat, reduceCtorEq, Int.reduceNeg, TF3, TF4, TF9, TF43, TF55]; refine hK _ _ ?_; clear hK K)
  refine AWp.block (AWp.loop (X := Nat) (fun x => [(10, intV x), (9, intV l.length), (8, .d (.slice (foR l))), (1, .clo f []), (5, .acc 5)]) (fun x => [(5, .rows 5 (foR (l.take x)))])
    (fun x => x ≤ l.length) (fun x => l.length - x) 0 ?_ ?_ ?_ ?_)
  · simp
  · exact (by simp [sle, vle, sget])
  · simp [ble, bget, foR]
  rintro j hj
  by_cases hlt : (j : Int) < (l.length : Int)
  · have hlt' : j < l.length := by omega
    have hy : l[j]? = some l[j] := List.getElem?_eq_getElem hlt'
    have hmem : l[j] ∈ l := List.getElem_mem hlt'
    have htake : l.take (j + 1) = l.take j ++ [l[j]] := List.take_succ_eq_append_getElem hlt'
    generalize l[j] = y at *
    (refine AWp.seqR [0, 1, 4, 5, 7, 8, 9, 10, 11] [] (by decide +kernel) fun K hK => ?_; simp -implicitDefEqProofs only [EV, forall_const, implies_true, Nat.reduceAdd, Nat.reduceEqDiff, Nat.reduceBEq, Nat.reduceLeDiff, Nat.reduceSub, Nat.reduceMul, Int.reduceEq, Int.reduceLT, Int.reduceLE, Int.reduceSub, Int.reduceAdd, Int.reduceToNat, reduceCtorEq, Int.reduceNeg, TF3, TF4, TF9, TF43, TF55, hlt]; refine hK _ _ ?_; clear hK K)
    refine AWp.seqK fun K2 hK2 => ?_
    refine AWp.condT rfl (AWp.skip (hK2 _ _ ?_))
    clear hK2 K2
    refine AWp.seqK fun K2 hK2 => ?_
    refine AWp.block ?_
    (refine AWp.seqR [0, 1, 4, 5, 7, 8, 9, 10, 11] [] (by decide +kernel) fun K hK => ?_; simp -implicitDefEqProofs only [EV, forall_const, implies_true, Nat.reduceAdd, Nat.reduceEqDiff, Nat.reduceBEq, Nat.reduceLeDiff, Nat.reduceSub, Nat.reduceMul, Int.reduceEq, Int.reduceLT, Int.reduceLE, Int.reduceSub, Int.reduceAdd, Int.reduceToNat, reduceCtorEq, Int.reduceNeg, TF3, TF4, TF9, TF43, TF55])
    refine ⟨by omega, foC y, foR_get hy, rfl, ?_⟩
    simp -implicitDefEqProofs only [EV, forall_const, implies_true, Nat.reduceAdd, Nat.reduceEqDiff, Nat.reduceBEq, Nat.reduceLeDiff, Nat.reduceSub, Nat.reduceMul, Int.reduceEq, Int.reduceLT, Int.reduceLE, Int.reduceSub, Int.reduceAdd, Int.reduceToNat, reduceCtorEq, Int.reduceNeg, TF3, TF4, TF9, TF43, TF55]
    (refine hK _ _ ?_; clear hK K)
    (refine AWp.lastR [0, 1, 4, 5, 7, 8, 9, 10, 11] [] (by decide +kernel) fun K hK => ?_; simp -implicitDefEqProofs only [EV, forall_const, implies_true, Nat.reduceAdd, Nat.reduceEqDiff, Nat.reduceBEq, Nat.reduceLeDiff, Nat.reduceSub, Nat.reduceMul, Int.reduceEq, Int.reduceLT, Int.reduceLE, Int.reduceSub, Int.reduceAdd, Int.reduceToNat, reduceCtorEq, Int.reduceNeg, TF3, TF4, TF9, TF43, TF55])
    refine ⟨foV y, .inl ⟨_, rfl, hs y hmem, rfl⟩, ?_⟩
    simp -implicitDefEqProofs only [EV, forall_const, implies_true, Nat.reduceAdd, Nat.reduceEqDiff, Nat.reduceBEq, Nat.reduceLeDiff, Nat.reduceSub, Nat.reduceMul, Int.reduceEq, Int.reduceLT, Int.reduceLE, Int.reduceSub, Int.reduceAdd, Int.reduceToNat, reduceCtorEq, Int.reduceNeg, TF3, TF4, TF9, TF43, TF55]
    refine ⟨by simp, by rw [List.length_take]; unfold lim sm at *; omega, ?_⟩
    (refine hK _ _ ?_; clear hK K; try simp only [thenA, blockA, if_true])
    refine hK2 _ _ ?_
    clear hK2 K2
    (refine AWp.lastR [0, 1, 4, 5, 7, 8, 9, 10, 11] [] (by decide +kernel) fun K hK => ?_; simp -implicitDefEqProofs only [EV, forall_const, implies_true, Nat.reduceAdd, Nat.reduceEqDiff, Nat.reduceBEq, Nat.reduceLeDiff, Nat.reduceSub, Nat.reduceMul, Int.reduceEq, Int.reduceLT, Int.reduceLE, Int.reduceSub, Int.reduceAdd, Int.reduceToNat, reduceCtorEq, Int.reduceNeg, TF3, TF4, TF9, TF43, TF55])
    refine ⟨by unfold InR; unfold sm at *; omega, ?_⟩
    (refine hK _ _ ?_; clear hK K; try simp only [thenA, blockA, if_true])
    refine ⟨j + 1, by omega, by omega, by simp [sle, vle, sget], ?_⟩
    rw [htake]
    simp [ble, bget, foR, foC]
  · (refine AWp.seqR [0, 1, 4, 5, 7, 8, 9, 10, 11] [] (by decide +kernel) fun K hK => ?_; simp -implicitDefEqProofs only [EV, forall_const, implies_true, Nat.reduceAdd, Nat.reduceEqDiff, Nat.reduceBEq, Nat.reduceLeDiff, Nat.reduceSub, Nat.reduceMul, Int.reduceEq, Int.reduceLT, Int.reduceLE, Int.reduceSub, Int.reduceAdd, Int.reduceToNat, reduceCtorEq, Int.reduceNeg, TF3, TF4, TF9, TF43, TF55, hlt]; refine hK _ _ ?_; clear hK K)
    refine AWp.seqK fun K2 hK2 => ?_
    refine AWp.condF rfl (AWp.exit ?_)
    simp only [thenA, blockA, if_true]
    rw [List.take_of_length_le (by omega)]
    exact fin _ _ (by simp [sle, vle, sget]) (by simp [ble, bget, exC, tyC, foC, paC, siC, deC, prC])
theorem ok_copiesP (f : FuncId) (l : List Param) (hl : l.length ≤ sm) (hs : ∀ t, t ∈ l → CallOK Try.prog f [paV t] (paV t)) :
    CallOK Try.prog 53 [.d (.slice (paR l)), .clo f []] (.d (.slice (paR l))) := by
  (refine CallOK.of_body Try.func53 rfl (by decide) (by rw [Try.ntmps53]; simp) ?_; rw [Try.ntmps53])
  (refine AWp.seqR [0, 1, 4, 5, 7, 8, 9, 10, 11] [] (by decide +kernel) fun K hK => ?_; simp -implicitDefEqProofs only [EV, forall_const, implies_true, Nat.reduceAdd, Nat.reduceEqDiff, Nat.reduceBEq, Nat.reduceLeDiff, Nat.reduceSub, Nat.reduceMul, Int.reduceEq, Int.reduceLT, Int.reduceLE, Int.reduceSub, Int.reduceAdd, Int.reduceToNat, reduceCtorEq, Int.reduceNeg, TF3, TF4, TF9, TF44, TF53]; refine hK _ _ ?_; clear hK K)
  (refine AWp.seqR [0, 1, 4, 5, 7, 8, 9, 10, 11] [] (by decide +kernel) fun K hK => ?_; simp -implicitDefEqProofs only [EV, forall_const, implies_true, Nat.reduceAdd, Nat.reduceEqDiff, Nat.reduceBEq, Nat.reduceLeDiff, Nat.reduceSub, Nat.reduceMul, Int.reduceEq, Int.reduceLT, Int.reduceLE, Int.reduceSub, Int.reduceAdd, Int.reduceToNat, reduceCtorEq, Int.reduceNeg, TF3, TF4, TF9, TF44, TF53]; refine hK _ _ ?_; clear hK K)
  refine AWp.promote 5 5 5 rfl ?_
  refine AWp.seqK fun K1 hK1 => ?_
  have fin : ∀ sl bx, sle sl [(5, .acc 5)] → ble bx [(5, .rows 5 (paR l))] → K1 sl bx := by
    intro sl bx h1 h2
    refine hK1 _ _ (AWp.weaken h1 h2 ?_)
    clear hK1 K1
    (refine AWp.seqR [0, 1, 4, 5, 7, 8, 9, 10, 11] [] (by decide +kernel) fun K hK => ?_; simp -implicitDefEqProofs only [EV, forall_const, implies_true, Nat.reduceAdd, Nat.reduceEqDiff, Nat.reduceBEq, Nat.reduceLeDiff, Nat.reduceSub, Nat.reduceMul, Int.reduceEq, Int.reduceLT, Int.reduceLE, Int.reduceSub, Int.reduceAdd, Int.reduceToNat, reduceCtorEq, Int.reduceNeg, TF3, TF4, TF9, TF44, TF53]; refine hK _ _ ?_; clear hK K)
    exact AWp.ret ⟨_, by rw [Try.results53]; rfl, rfl⟩
  (refine AWp.seqR [0, 1, 4, 5, 7, 8, 9, 10, 11] [] (by decide +kernel) fun K hK => ?_; simp -implicitDefEqProofs only [EV, forall_const, implies_true, Nat.reduceAdd, Nat.reduceEqDiff, Nat.reduceBEq, Nat.reduceLeDiff, Nat.reduceSub, Nat.reduceMul, Int.reduceEq, Int.reduceLT, Int.reduceLE, Int.reduceSub, Int.reduceAdd, Int.reduceToNat, reduceCtorEq, Int.reduceNeg, TF3, TF4, TF9, TF44, TF53]; refine hK _ _ ?_; clear hK K)
  refine AWp.block (AWp.loop (X := Nat) (fun x => [(10, intV x), (9, intV l.length), (8, .d (.slice (paR l))), (1, .clo f []), (5, .acc 5)]) (fun x => [(5, .rows 5 (paR (l.take x)))])
    (fun x => x ≤ l.length) (fun x => l.length - x) 0 ?_ ?_ ?_ ?_)
  · simp
  · exact (by simp [sle, vle, sget])
  · simp [ble, bget, paR]
  rintro j hj
  by_cases hlt : (j : Int) < (l.length : Int)
  · have hlt' : j < l.length := by omega
    have hy : l[j]? = some l[j] := List.getElem?_eq_getElem hlt'
    have hmem : l[j] ∈ l := List.getElem_mem hlt'
    have htake : l.take (j + 1) = l.take j ++ [l[j]] := List.take_succ_eq_append_getElem hlt'
    generalize l[j] = y at *
    (refine AWp.seqR [0, 1, 4, 5, 7, 8, 9, 10, 11] [] (by decide +kernel) fun K hK => ?_; simp -implicitDefEqProofs only [EV, forall_const, implies_true, Nat.reduceAdd, Nat.reduceEqDiff, Nat.reduceBEq, Nat.reduceLeDiff, Nat.reduceSub, Nat.reduceMul, Int.reduceEq, Int.reduceLT, Int.reduceLE, Int.reduceSub, Int.reduceAdd, Int.reduceToNat, reduceCtorEq, Int.reduceNeg, TF3, TF4, TF9, TF44, TF53, hlt]; refine hK _ _ ?_; clear hK K)
    refine AWp.seqK fun K2 hK2 => ?_
    refine AWp.condT rfl (AWp.skip (hK2 _ _ ?_))
    clear hK2 K2
    refine AWp.seqK fun K2 hK2 => ?_
    refine AWp.block ?_
    (refine AWp.seqR [0, 1, 4, 5, 7, 8, 9, 10, 11] [] (by decide +kernel) fun K hK => ?_; simp -implicitDefEqProofs only [EV, forall_const, implies_true, Nat.reduceAdd, Nat.reduceEqDiff, Nat.reduceBEq, Nat.reduceLeDiff, Nat.reduceSub, Nat.reduceMul, Int.reduceEq, Int.reduceLT, Int.reduceLE, Int.reduceSub, Int.reduceAdd, Int.reduceToNat, reduceCtorEq, Int.reduceNeg, TF3, TF4, TF9, TF44, TF53])
    refine ⟨by omega, paC y, paR_get hy, rfl, ?_⟩
    simp -implicitDefEqProofs only [EV, forall_const, implies_true, Nat.reduceAdd, Nat.reduceEqDiff, Nat.reduceBEq, Nat.reduceLeDiff, Nat.reduceSub, Nat.reduceMul, Int.reduceEq, Int.reduceLT, Int.reduceLE, Int.reduceSub, Int.reduceAdd, Int.reduceToNat, reduceCtorEq, Int.reduceNeg, TF3, TF4, TF9, TF44, TF53]
    (refine hK _ _ ?_; clear hK K)
    (refine AWp.lastR [0, 1, 4, 5, 7, 8, 9, 10, 11] [] (by decide +kernel) fun K hK => ?_; simp -implicitDefEqProofs only [EV, forall_const, implies_true, Nat.reduceAdd, Nat.reduceEqDiff, Nat.reduceBEq, Nat.reduceLeDiff, Nat.reduceSub, Nat.reduceMul, Int.reduceEq, Int.reduceLT, Int.reduceLE, Int.reduceSub, Int.reduceAdd, Int.reduceToNat, reduceCtorEq, Int.reduceNeg, TF3, TF4, TF9, TF44, TF53])
    refine ⟨paV y, .inl ⟨_, rfl, hs y hmem, rfl⟩, ?_⟩
    simp -implicitDefEqProofs only [EV, forall_const, implies_true, Nat.reduceAdd, Nat.reduceEqDiff, Nat.reduceBEq, Nat.reduceLeDiff, Nat.reduceSub, Nat.reduceMul, Int.reduceEq, Int.reduceLT, Int.reduceLE, Int.reduceSub, Int.reduceAdd, Int.reduceToNat, reduceCtorEq, Int.reduceNeg, TF3, TF4, TF9, TF44, TF53]
    refine ⟨by simp, by rw [List.length_take]; unfold lim sm at *; omega, ?_⟩
    (refine hK _ _ ?_; clear hK K; try simp only [thenA, blockA, if_true])
    refine hK2 _ _ ?_
    clear hK2 K2
    (refine AWp.lastR [0, 1, 4, 5, 7, 8, 9, 10, 11] [] (by decide +kernel) fun K hK => ?_; simp -implicitDefEqProofs only [EV, forall_const, implies_true, Nat.reduceAdd, Nat.reduceEqDiff, Nat.reduceBEq, Nat.reduceLeDiff, Nat.reduceSub, Nat.reduceMul, Int.reduceEq, Int.reduceLT, Int.reduceLE, Int.reduceSub, Int.reduceAdd, Int.reduceToNat, reduceCtorEq, Int.reduceNeg, TF3, TF4, TF9, TF44, TF53])
    refine ⟨by unfold InR; unfold sm at *; omega, ?_⟩
    (refine hK _ _ ?_; clear hK K; try simp only [thenA, blockA, if_true])
    refine ⟨j + 1, by omega, by omega, by simp [sle, vle, sget], ?_⟩
    rw [htake]
    simp [ble, bget, paR, paC]
  · (refine AWp.seqR [0, 1, 4, 5, 7, 8, 9, 10, 11] [] (by decide +kernel) fun K hK => ?_; simp -implicitDefEqProofs only [EV, forall_const, implies_true, Nat.reduceAdd, Nat.reduceEqDiff, Nat.reduceBEq, Nat.reduceLeDiff, Nat.reduceSub, Nat.reduceMul, Int.reduceEq, Int.reduceLT, Int.reduceLE, Int.reduceSub, Int.reduceAdd, Int.reduceToNat, reduceCtorEq, Int.reduceNeg, TF3, TF4, TF9, TF44, TF53, hlt]; refine hK _ _ ?_; clear hK K)
    refine AWp.seqK fun K2 hK2 => ?_
    refine AWp.condF rfl (AWp.exit ?_)
    simp only [thenA, blockA, if_true]
    rw [List.take_of_length_le (by omega)]
    exact fin _ _ (by simp [sle, vle, sget]) (by simp [ble, bget, exC, tyC, foC, paC, siC, deC, prC])
theorem ok_copiesS (f : FuncId) (l : List Sig) (hl : l.length ≤ sm) (hs : ∀ t, t ∈ l → CallOK Try.prog f [siV t] (siV t)) :
    CallOK Try.prog 55 [.d (.slice (siR l)), .clo f []] (.d (.slice (siR l))) := by
  (refine CallOK.of_body Try.func55 rfl (by decide) (by rw [Try.ntmps55]; simp) ?_; rw [Try.ntmps55])
  (refine AWp.seqR [0, 1, 4, 5, 7, 8, 9, 10, 11] [] (by decide +kernel) fun K hK => ?_; simp -implicitDefEqProofs only [EV, forall_const, implies_true, Nat.reduceAdd, Nat.reduceEqDiff, Nat.reduceBEq, Nat.reduceLeDiff, Nat.reduceSub, Nat.reduceMul, Int.reduceEq, Int.reduceLT, Int.reduceLE, Int.reduceSub, Int.reduceAdd, Int.reduceToNat, reduceCtorEq, Int.reduceNeg, TF3, TF4, TF9, TF45, TF47]; refine hK _ _ ?_; clear hK K)
  (refine AWp.seqR [0, 1, 4, 5, 7, 8, 9, 10, 11] [] (by decide +kernel) fun K hK => ?_; simp -implicitDefEqProofs only [EV, forall_const, implies_true, Nat.reduceAdd, Nat.reduceEqDiff, Nat.reduceBEq, Nat.reduceLeDiff, Nat.reduceSub, Nat.reduceMul, Int.reduceEq, Int.reduceLT, Int.reduceLE, Int.reduceSub, Int.reduceAdd, Int.reduceToNat, reduceCtorEq, Int.reduceNeg, TF3, TF4, TF9, TF45, TF47]; refine hK _ _ ?_; clear hK K)
  refine AWp.promote 5 7 5 rfl ?_
  refine AWp.seqK fun K1 hK1 => ?_
  have fin : ∀ sl bx, sle sl [(5, .acc 5)] → ble bx [(5, .rows 7 (siR l))] → K1 sl bx := by
    intro sl bx h1 h2
    refine hK1 _ _ (AWp.weaken h1 h2 ?_)
    clear hK1 K1
    (refine AWp.seqR [0, 1, 4, 5, 7, 8, 9, 10, 11] [] (by decide +kernel) fun K hK => ?_; simp -implicitDefEqProofs only [EV, forall_const, implies_true, Nat.reduceAdd, Nat.reduceEqDiff, Nat.reduceBEq, Nat.reduceLeDiff, Nat.reduceSub, Nat.reduceMul, Int.reduceEq, Int.reduceLT, Int.reduceLE, Int.reduceSub, Int.reduceAdd, Int.reduceToNat, reduceCtorEq, Int.reduceNeg, TF3, TF4, TF9, TF45, TF47]; refine hK _ _ ?_; clear hK K)
    exact AWp.ret ⟨_, by rw [Try.results55]; rfl, rfl⟩
  (refine AWp.seqR [0, 1, 4, 5, 7, 8, 9, 10, 11] [] (by decide +kernel) fun K hK => ?_; simp -implicitDefEqProofs only [EV, forall_const, implies_true, Nat.reduceAdd, Nat.reduceEqDiff, Nat.reduceBEq, Nat.reduceLeDiff, Nat.reduceSub, Nat.reduceMul, Int.reduceEq, Int.reduceLT, Int.reduceLE, Int.reduceSub, Int.reduceAdd, Int.reduceToNat, reduceCtorEq, Int.reduceNeg, TF3, TF4, TF9, TF45, TF47]; refine hK _ _ ?_; clear hK K)
  refine AWp.block (AWp.loop (X := Nat) (fun x => [(10, intV x), (9, intV l.length), (8, .d (.slice (siR l))), (1, .clo f []), (5, .acc 5)]) (fun x => [(5, .rows 7 (siR (l.take x)))])
    (fun x => x ≤ l.length) (fun x => l.length - x) 0 ?_ ?_ ?_ ?_)
  · simp
  · exact (by simp [sle, vle, sget])
  · simp [ble, bget, siR]
  rintro j hj
  by_cases hlt : (j : Int) < (l.length : Int)
  · have hlt' : j < l.length := by omega
    have hy : l[j]? = some l[j] := List.getElem?_eq_getElem hlt'
    have hmem : l[j] ∈ l := List.getElem_mem hlt'
    have htake : l.take (j + 1) = l.take j ++ [l[j]] := List.take_succ_eq_append_getElem hlt'
    generalize l[j] = y at *
    (refine AWp.seqR [0, 1, 4, 5, 7, 8, 9, 10, 11] [] (by decide +kernel) fun K hK => ?_; simp -implicitDefEqProofs only [EV, forall_const, implies_true, Nat.reduceAdd, Nat.reduceEqDiff, Nat.reduceBEq, Nat.reduceLeDiff, Nat.reduceSub, Nat.reduceMul, Int.reduceEq, Int.reduceLT, Int.reduceLE, Int.reduceSub, Int.reduceAdd, Int.reduceToNat, reduceCtorEq, Int.reduceNeg, TF3, TF4, TF9, TF45, TF47, hlt]; refine hK _ _ ?_; clear hK K)
    refine AWp.seqK fun K2 hK2 => ?_
    refine AWp.condT rfl (AWp.skip (hK2 _ _ ?_))
    clear hK2 K2
    refine AWp.seqK fun K2 hK2 => ?_
    refine AWp.block ?_
    (refine AWp.seqR [0, 1, 4, 5, 7, 8, 9, 10, 11] [] (by decide +kernel) fun K hK => ?_; simp -implicitDefEqProofs only [EV, forall_const, implies_true, Nat.reduceAdd, Nat.reduceEqDiff, Nat.reduceBEq, Nat.reduceLeDiff, Nat.reduceSub, Nat.reduceMul, Int.reduceEq, Int.reduceLT, Int.reduceLE, Int.reduceSub, Int.reduceAdd, Int.reduceToNat, reduceCtorEq, Int.reduceNeg, TF3, TF4, TF9, TF45, TF47])
    refine ⟨by omega, siC y, siR_get hy, rfl, ?_⟩
    simp -implicitDefEqProofs only [EV, forall_const, implies_true, Nat.reduceAdd, Nat.reduceEqDiff, Nat.reduceBEq, Nat.reduceLeDiff, Nat.reduceSub, Nat.reduceMul, Int.reduceEq, Int.reduceLT, Int.reduceLE, Int.reduceSub, Int.reduceAdd, Int.reduceToNat, reduceCtorEq, Int.reduceNeg, TF3, TF4, TF9, TF45, TF47]
    (refine hK _ _ ?_; clear hK K)
    (refine AWp.lastR [0, 1, 4, 5, 7, 8, 9, 10, 11] [] (by decide +kernel) fun K hK => ?_; simp -implicitDefEqProofs only [EV, forall_const, implies_true, Nat.reduceAdd, Nat.reduceEqDiff, Nat.reduceBEq, Nat.reduceLeDiff, Nat.reduceSub, Nat.reduceMul, Int.reduceEq, Int.reduceLT, Int.reduceLE, Int.reduceSub, Int.reduceAdd, Int.reduceToNat, reduceCtorEq, Int.reduceNeg, TF3, TF4, TF9, TF45, TF47])
    refine ⟨siV y, .inl ⟨_, rfl, hs y hmem, rfl⟩, ?_⟩
    simp -implicitDefEqProofs only [EV, forall_const, implies_true, Nat.reduceAdd, Nat.reduceEqDiff, Nat.reduceBEq, Nat.reduceLeDiff, Nat.reduceSub, Nat.reduceMul, Int.reduceEq, Int.reduceLT, Int.reduceLE, Int.reduceSub, Int.reduceAdd, Int.reduceToNat, reduceCtorEq, Int.reduceNeg, TF3, TF4, TF9, TF45, TF47]
    refine ⟨by simp, by rw [List.length_take]; unfold lim sm at *; omega, ?_⟩
    (refine hK _ _ ?_; clear hK K; try simp only [thenA, blockA, if_true])
    refine hK2 _ _ ?_
    clear hK2 K2
    (refine AWp.lastR [0, 1, 4, 5, 7, 8, 9, 10, 11] [] (by decide +kernel) fun K hK => ?_; simp -implicitDefEqProofs only [EV, forall_const, implies_true, Nat.reduceAdd, Nat.reduceEqDiff, Nat.reduceBEq, Nat.reduceLeDiff, Nat.reduceSub, Nat.reduceMul, Int.reduceEq, Int.reduceLT, Int.reduceLE, Int.reduceSub, Int.reduceAdd, Int.reduceToNat, reduceCtorEq, Int.reduceNeg, TF3, TF4, TF9, TF45, TF47])
    refine ⟨by unfold InR; unfold sm at *; omega, ?_⟩
    (refine hK _ _ ?_; clear hK K; try simp only [thenA, blockA, if_true])
    refine ⟨j + 1, by omega, by omega, by simp [sle, vle, sget], ?_⟩
    rw [htake]
    simp [ble, bget, siR, siC]
  · (refine AWp.seqR [0, 1, 4, 5, 7, 8, 9, 10, 11] [] (by decide +kernel) fun K hK => ?_; simp -implicitDefEqProofs only [EV, forall_const, implies_true, Nat.reduceAdd, Nat.reduceEqDiff, Nat.reduceBEq, Nat.reduceLeDiff, Nat.reduceSub, Nat.reduceMul, Int.reduceEq, Int.reduceLT, Int.reduceLE, Int.reduceSub, Int.reduceAdd, Int.reduceToNat, reduceCtorEq, Int.reduceNeg, TF3, TF4, TF9, TF45, TF47, hlt]; refine hK _ _ ?_; clear hK K)
    refine AWp.seqK fun K2 hK2 => ?_
    refine AWp.condF rfl (AWp.exit ?_)
    simp only [thenA, blockA, if_true]
    rw [List.take_of_length_le (by omega)]
    exact fin _ _ (by simp [sle, vle, sget]) (by simp [ble, bget, exC, tyC, foC, paC, siC, deC, prC])
theorem ok_copiesD (f : FuncId) (l : List Decl) (hl : l.length ≤ sm) (hs : ∀ t, t ∈ l → CallOK Try.prog f [deV t] (deV t)) :
    CallOK Try.prog 43 [.d (.slice (deR l)), .clo f []] (.d (.slice (deR l))) := by
  (refine CallOK.of_body Try.func43 rfl (by decide) (by rw [Try.ntmps43]; simp) ?_; rw [Try.ntmps43])
  (refine AWp.seqR [0, 1, 4, 5, 7, 8, 9, 10, 11] [] (by decide +kernel) fun K hK => ?_; simp -implicitDefEqProofs only [EV, forall_const, implies_true, Nat.reduceAdd, Nat.reduceEqDiff, Nat.reduceBEq, Nat.reduceLeDiff, Nat.reduceSub, Nat.reduceMul, Int.reduceEq, Int.reduceLT, Int.reduceLE, Int.reduceSub, Int.reduceAdd, Int.reduceToNat, reduceCtorEq, Int.reduceNeg, TF3, TF4, TF9, TF22, TF49]; refine hK _ _ ?_; clear hK K)
  (refine AWp.seqR [0, 1, 4, 5, 7, 8, 9, 10, 11] [] (by decide +kernel) fun K hK => ?_; simp -implicitDefEqProofs only [EV, forall_const, implies_true, Nat.reduceAdd, Nat.reduceEqDiff, Nat.reduceBEq, Nat.reduceLeDiff, Nat.reduceSub, Nat.reduceMul, Int.reduceEq, Int.reduceLT, Int.reduceLE, Int.reduceSub, Int.reduceAdd, Int.reduceToNat, reduceCtorEq, Int.reduceNeg, TF3, TF4, TF9, TF22, TF49]; refine hK _ _ ?_; clear hK K)
  refine AWp.promote 5 23 5 rfl ?_
  refine AWp.seqK fun K1 hK1 => ?_
  have fin : ∀ sl bx, sle sl [(5, .acc 5)] → ble bx [(5, .rows 23 (deR l))] → K1 sl bx := by
    intro sl bx h1 h2
    refine hK1 _ _ (AWp.weaken h1 h2 ?_)
    clear hK1 K1
    (refine AWp.seqR [0, 1, 4, 5, 7, 8, 9, 10, 11] [] (by decide +kernel) fun K hK => ?_; simp -implicitDefEqProofs only [EV, forall_const, implies_true, Nat.reduceAdd, Nat.reduceEqDiff, Nat.reduceBEq, Nat.reduceLeDiff, Nat.reduceSub, Nat.reduceMul, Int.reduceEq, Int.reduceLT, Int.reduceLE, Int.reduceSub, Int.reduceAdd, Int.reduceToNat, reduceCtorEq, Int.reduceNeg, TF3, TF4, TF9, TF22, TF49]; refine hK _ _ ?_; clear hK K)
    exact AWp.ret ⟨_, by rw [Try.results43]; rfl, rfl⟩
  (refine AWp.seqR [0, 1, 4, 5, 7, 8, 9, 10, 11] [] (by decide +kernel) fun K hK => ?_; simp -implicitDefEqProofs only [EV, forall_const, implies_true, Nat.reduceAdd, Nat.reduceEqDiff, Nat.reduceBEq, Nat.reduceLeDiff, Nat.reduceSub, Nat.reduceMul, Int.reduceEq, Int.reduceLT, Int.reduceLE, Int.reduceSub, Int.reduceAdd, Int.reduceToNat, reduceCtorEq, Int.reduceNeg, TF3, TF4, TF9, TF22, TF49]; refine hK _ _ ?_; clear hK K)
  refine AWp.block (AWp.loop (X := Nat) (fun x => [(10, intV x), (9, intV l.length), (8, .d (.slice (deR l))), (1, .clo f []), (5, .acc 5)]) (fun x => [(5, .rows 23 (deR (l.take x)))])
    (fun x => x ≤ l.length) (fun x => l.length - x) 0 ?_ ?_ ?_ ?_)
  · simp
  · exact (by simp [sle, vle, sget])
  · simp [ble, bget, deR]
  rintro j hj
  by_cases hlt : (j : Int) < (l.length : Int)
  · have hlt' : j < l.length := by omega
    have hy : l[j]? = some l[j] := List.getElem?_eq_getElem hlt'
    have hmem : l[j] ∈ l := List.getElem_mem hlt'
    have htake : l.take (j + 1) = l.take j ++ [l[j]] := List.take_succ_eq_append_getElem hlt'
    generalize l[j] = y at *
    (refine AWp.seqR [0, 1, 4, 5, 7, 8, 9, 10, 11] [] (by decide +kernel) fun K hK => ?_; simp -implicitDefEqProofs only [EV, forall_const, implies_true, Nat.reduceAdd, Nat.reduceEqDiff, Nat.reduceBEq, Nat.reduceLeDiff, Nat.reduceSub, Nat.reduceMul, Int.reduceEq, Int.reduceLT, Int.reduceLE, Int.reduceSub, Int.reduceAdd, Int.reduceToNat, reduceCtorEq, Int.reduceNeg, TF3, TF4, TF9, TF22, TF49, hlt]; refine hK _ _ ?_; clear hK K)
    refine AWp.seqK fun K2 hK2 => ?_
    refine AWp.condT rfl (AWp.skip (hK2 _ _ ?_))
    clear hK2 K2
    refine AWp.seqK fun K2 hK2 => ?_
    refine AWp.block ?_
    (refine AWp.seqR [0, 1, 4, 5, 7, 8, 9, 10, 11] [] (by decide +kernel) fun K hK => ?_; simp -implicitDefEqProofs only [EV, forall_const, implies_true, Nat.reduceAdd, Nat.reduceEqDiff, Nat.reduceBEq, Nat.reduceLeDiff, Nat.reduceSub, Nat.reduceMul, Int.reduceEq, Int.reduceLT, Int.reduceLE, Int.reduceSub, Int.reduceAdd, Int.reduceToNat, reduceCtorEq, Int.reduceNeg, TF3, TF4, TF9, TF22, TF49])
    refine ⟨by omega, deC y, deR_get hy, rfl, ?_⟩
    simp -implicitDefEqProofs only [EV, forall_const, implies_true, Nat.reduceAdd, Nat.reduceEqDiff, Nat.reduceBEq, Nat.reduceLeDiff, Nat.reduceSub, Nat.reduceMul, Int.reduceEq, Int.reduceLT, Int.reduceLE, Int.reduceSub, Int.reduceAdd, Int.reduceToNat, reduceCtorEq, Int.reduceNeg, TF3, TF4, TF9, TF22, TF49]
    (refine hK _ _ ?_; clear hK K)
    (refine AWp.lastR [0, 1, 4, 5, 7, 8, 9, 10, 11] [] (by decide +kernel) fun K hK => ?_; simp -implicitDefEqProofs only [EV, forall_const, implies_true, Nat.reduceAdd, Nat.reduceEqDiff, Nat.reduceBEq, Nat.reduceLeDiff, Nat.reduceSub, Nat.reduceMul, Int.reduceEq, Int.reduceLT, Int.reduceLE, Int.reduceSub, Int.reduceAdd, Int.reduceToNat, reduceCtorEq, Int.reduceNeg, TF3, TF4, TF9, TF22, TF49])
    refine ⟨deV y, .inl ⟨_, rfl, hs y hmem, rfl⟩, ?_⟩
    simp -implicitDefEqProofs only [EV, forall_const, implies_true, Nat.reduceAdd, Nat.reduceEqDiff, Nat.reduceBEq, Nat.reduceLeDiff, Nat.reduceSub, Nat.reduceMul, Int.reduceEq, Int.reduceLT, Int.reduceLE, Int.reduceSub, Int.reduceAdd, Int.reduceToNat, reduceCtorEq, Int.reduceNeg, TF3, TF4, TF9, TF22, TF49]
    refine ⟨by simp, by rw [List.length_take]; unfold lim sm at *; omega, ?_⟩
    (refine hK _ _ ?_; clear hK K; try simp only [thenA, blockA, if_true])
    refine hK2 _ _ ?_
    clear hK2 K2
    (refine AWp.lastR [0, 1, 4, 5, 7, 8, 9, 10, 11] [] (by decide +kernel) fun K hK => ?_; simp -implicitDefEqProofs only [EV, forall_const, implies_true, Nat.reduceAdd, Nat.reduceEqDiff, Nat.reduceBEq, Nat.reduceLeDiff, Nat.reduceSub, Nat.reduceMul, Int.reduceEq, Int.reduceLT, Int.reduceLE, Int.reduceSub, Int.reduceAdd, Int.reduceToNat, reduceCtorEq, Int.reduceNeg, TF3, TF4, TF9, TF22, TF49])
    refine ⟨by unfold InR; unfold sm at *; omega, ?_⟩
    (refine hK _ _ ?_; clear hK K; try simp only [thenA, blockA, if_true])
    refine ⟨j + 1, by omega, by omega, by simp [sle, vle, sget], ?_⟩
    rw [htake]
    simp [ble, bget, deR, deC]
  · (refine AWp.seqR [0, 1, 4, 5, 7, 8, 9, 10, 11] [] (by decide +kernel) fun K hK => ?_; simp -implicitDefEqProofs only [EV, forall_const, implies_true, Nat.reduceAdd, Nat.reduceEqDiff, Nat.reduceBEq, Nat.reduceLeDiff, Nat.reduceSub, Nat.reduceMul, Int.reduceEq, Int.reduceLT, Int.reduceLE, Int.reduceSub, Int.reduceAdd, Int.reduceToNat, reduceCtorEq, Int.reduceNeg, TF3, TF4, TF9, TF22, TF49, hlt]; refine hK _ _ ?_; clear hK K)
    refine AWp.seqK fun K2 hK2 => ?_
    refine AWp.condF rfl (AWp.exit ?_)
    simp only [thenA, blockA, if_true]
    rw [List.take_of_length_le (by omega)]
    exact fin _ _ (by simp [sle, vle, sget]) (by simp [ble, bget, exC, tyC, foC, paC, siC, deC, prC])

/-- an empty slice is nil or not -/
theorem AWp.splitNil {P : Program} {n : Nat} {c : Code} {Q : Exit → SL → Boxes → Prop} {sl : SL} {bx : Boxes} (t : Nat) (hd : sget sl t = .d (.slice [])) (h1 : AWp P n c Q ((t, .d .nil) :: sl) bx) (h2 : AWp P n c Q ((t, .d .emp) :: sl) bx) : AWp P n c Q sl bx := by
  intro C S w β a hs
  have hr := hs.slot t
  rw [hd] at hr
  have hc := hr.inv_d
  generalize hv : a.tmps.getD t undef = v at hc
  have go : ∀ x : SV, RepV S w β x v → St C n S w β a ((t, x) :: sl) bx := fun x hx => ⟨hs.inv, hs.size, hs.defers, fun u => by
    simp only [sget]
    split
    · rename_i he; subst he; rw [hv]; exact hx
    · exact hs.slot u⟩
  cases hc with
  | slice0 a cap hac =>
    cases a with
    | none => have := hac rfl; subst this; exact h1 C S w β _ (go _ (.d _ _ .nil))
    | some b => exact h2 C S w β _ (go _ (.d _ _ (.emp b cap)))
  | slice _ b off cap sz => exact h2 C S w β _ (go _ (.d _ _ (.emp _ cap)))

theorem ok_SClone (l : List Str) (hl : l.length ≤ sm) : CallOK Try.prog 57 [strsV l] (strsV l) := by
  (refine CallOK.of_body Try.func57 rfl (by decide) (by rw [Try.ntmps57]; simp) ?_; rw [Try.ntmps57])
  (refine AWp.seqR [0, 2, 4] [] (by decide +kernel) fun K hK => ?_; simp -implicitDefEqProofs only [EV, forall_const, implies_true, Nat.reduceAdd, Nat.reduceEqDiff, Nat.reduceBEq, Nat.reduceLeDiff, Nat.reduceSub, Nat.reduceMul, Int.reduceEq, Int.reduceLT, Int.reduceLE, Int.reduceSub, Int.reduceAdd, Int.reduceToNat, reduceCtorEq, Int.reduceNeg, TF3, TF4, TF9, TF33]; refine hK _ _ ?_; clear hK K)
  cases l with
  | nil =>
    refine AWp.splitNil 0 rfl ?_ ?_
    · refine AWp.seqK fun K1 hK1 => ?_
      (refine AWp.seqR [0, 2, 4] [] (by decide +kernel) fun K hK => ?_; simp -implicitDefEqProofs only [EV, forall_const, implies_true, Nat.reduceAdd, Nat.reduceEqDiff, Nat.reduceBEq, Nat.reduceLeDiff, Nat.reduceSub, Nat.reduceMul, Int.reduceEq, Int.reduceLT, Int.reduceLE, Int.reduceSub, Int.reduceAdd, Int.reduceToNat, reduceCtorEq, Int.reduceNeg, TF3, TF4, TF9, TF33]; refine hK _ _ ?_; clear hK K)
      refine AWp.condT rfl ?_
      (refine AWp.seqR [0, 2, 4] [] (by decide +kernel) fun K hK => ?_; simp -implicitDefEqProofs only [EV, forall_const, implies_true, Nat.reduceAdd, Nat.reduceEqDiff, Nat.reduceBEq, Nat.reduceLeDiff, Nat.reduceSub, Nat.reduceMul, Int.reduceEq, Int.reduceLT, Int.reduceLE, Int.reduceSub, Int.reduceAdd, Int.reduceToNat, reduceCtorEq, Int.reduceNeg, TF3, TF4, TF9, TF33]; refine hK _ _ ?_; clear hK K)
      exact AWp.ret ⟨_, by rw [Try.results57]; rfl, rfl⟩
    · refine AWp.seqK fun K1 hK1 => ?_
      (refine AWp.seqR [0, 2, 4] [] (by decide +kernel) fun K hK => ?_; simp -implicitDefEqProofs only [EV, forall_const, implies_true, Nat.reduceAdd, Nat.reduceEqDiff, Nat.reduceBEq, Nat.reduceLeDiff, Nat.reduceSub, Nat.reduceMul, Int.reduceEq, Int.reduceLT, Int.reduceLE, Int.reduceSub, Int.reduceAdd, Int.reduceToNat, reduceCtorEq, Int.reduceNeg, TF3, TF4, TF9, TF33]; refine hK _ _ ?_; clear hK K)
      refine AWp.condF rfl (AWp.skip (hK1 _ _ ?_))
      clear hK1 K1
      (refine AWp.seqR [0, 2, 4, 5] [5] (by decide +kernel) fun K hK => ?_; simp -implicitDefEqProofs only [EV, forall_const, implies_true, Nat.reduceAdd, Nat.reduceEqDiff, Nat.reduceBEq, Nat.reduceLeDiff, Nat.reduceSub, Nat.reduceMul, Int.reduceEq, Int.reduceLT, Int.reduceLE, Int.reduceSub, Int.reduceAdd, Int.reduceToNat, reduceCtorEq, Int.reduceNeg, TF3, TF4, TF9, TF33]; refine hK _ _ ?_; clear hK K)
      exact AWp.ret ⟨_, by rw [Try.results57]; rfl, rfl⟩
  | cons x l =>
    have e : strR (x :: l) = [.str x] :: strR l := rfl
    refine AWp.seqK fun K1 hK1 => ?_
    (refine AWp.seqR [0, 2, 4] [] (by decide +kernel) fun K hK => ?_; simp -implicitDefEqProofs only [EV, forall_const, implies_true, Nat.reduceAdd, Nat.reduceEqDiff, Nat.reduceBEq, Nat.reduceLeDiff, Nat.reduceSub, Nat.reduceMul, Int.reduceEq, Int.reduceLT, Int.reduceLE, Int.reduceSub, Int.reduceAdd, Int.reduceToNat, reduceCtorEq, Int.reduceNeg, TF3, TF4, TF9, TF33, e, sliceNil]; refine hK _ _ ?_; clear hK K)
    refine AWp.condF rfl (AWp.skip (hK1 _ _ ?_))
    clear hK1 K1
    have hrow := strR_row (x :: l)
    rw [e] at hrow
    simp only [List.length_cons] at hl
    (refine AWp.seqR [0, 2, 4, 5] [5] (by decide +kernel) fun K hK => ?_; simp -implicitDefEqProofs only [EV, forall_const, implies_true, Nat.reduceAdd, Nat.reduceEqDiff, Nat.reduceBEq, Nat.reduceLeDiff, Nat.reduceSub, Nat.reduceMul, Int.reduceEq, Int.reduceLT, Int.reduceLE, Int.reduceSub, Int.reduceAdd, Int.reduceToNat, reduceCtorEq, Int.reduceNeg, TF3, TF4, TF9, TF33, e])
    refine ⟨hrow, by unfold lim sm at *; omega, ?_⟩
    (refine hK _ _ ?_; clear hK K)
    rw [← e]
    exact AWp.ret ⟨_, by rw [Try.results57]; rfl, rfl⟩

theorem ok_cloneSig (x : Sig) (h : x.Sm) : CallOK Try.prog 56 [siV x] (siV x) := by
  (refine CallOK.of_body Try.func56 rfl (by decide) (by rw [Try.ntmps56]; simp) ?_; rw [Try.ntmps56])
  (refine AWp.seqR [0, 1, 2] [] (by decide +kernel) fun K hK => ?_; simp -implicitDefEqProofs only [EV, forall_const, implies_true, Nat.reduceAdd, Nat.reduceEqDiff, Nat.reduceBEq, Nat.reduceLeDiff, Nat.reduceSub, Nat.reduceMul, Int.reduceEq, Int.reduceLT, Int.reduceLE, Int.reduceSub, Int.reduceAdd, Int.reduceToNat, reduceCtorEq, Int.reduceNeg, TF3, TF4, TF9, TF25, TF43, TF44, TF47, TF53, TF55]; refine hK _ _ ?_; clear hK K)
  (refine AWp.seqD [0, 1, 2] [] 10 mixed (by decide +kernel) (by decide +kernel) fun K hK => ?_; simp -implicitDefEqProofs only [EV, forall_const, implies_true, Nat.reduceAdd, Nat.reduceEqDiff, Nat.reduceBEq, Nat.reduceLeDiff, Nat.reduceSub, Nat.reduceMul, Int.reduceEq, Int.reduceLT, Int.reduceLE, Int.reduceSub, Int.reduceAdd, Int.reduceToNat, reduceCtorEq, Int.reduceNeg, TF3, TF4, TF9, TF25, TF43, TF44, TF47, TF53, TF55])
  refine ⟨.d (.slice (foR x.formals)), .inl ⟨_, rfl, ok_copiesF _ _ h.formals.1 fun t ht => ok_cloneFormal t (h.formals.2 t ht), rfl⟩, ?_⟩
  simp -implicitDefEqProofs only [EV, forall_const, implies_true, Nat.reduceAdd, Nat.reduceEqDiff, Nat.reduceBEq, Nat.reduceLeDiff, Nat.reduceSub, Nat.reduceMul, Int.reduceEq, Int.reduceLT, Int.reduceLE, Int.reduceSub, Int.reduceAdd, Int.reduceToNat, reduceCtorEq, Int.reduceNeg, TF3, TF4, TF9, TF25, TF43, TF44, TF47, TF53, TF55]
  refine ⟨.d (.slice (paR x.params)), .inl ⟨_, rfl, ok_copiesP _ _ h.params.1 fun t ht => ok_cloneParam t (h.params.2 t ht), rfl⟩, ?_⟩
  simp -implicitDefEqProofs only [EV, forall_const, implies_true, Nat.reduceAdd, Nat.reduceEqDiff, Nat.reduceBEq, Nat.reduceLeDiff, Nat.reduceSub, Nat.reduceMul, Int.reduceEq, Int.reduceLT, Int.reduceLE, Int.reduceSub, Int.reduceAdd, Int.reduceToNat, reduceCtorEq, Int.reduceNeg, TF3, TF4, TF9, TF25, TF43, TF44, TF47, TF53, TF55]
  refine ⟨tyV x.result, .inl ⟨_, rfl, ok_Clone x.result h.result, rfl⟩, ?_⟩
  simp -implicitDefEqProofs only [EV, forall_const, implies_true, Nat.reduceAdd, Nat.reduceEqDiff, Nat.reduceBEq, Nat.reduceLeDiff, Nat.reduceSub, Nat.reduceMul, Int.reduceEq, Int.reduceLT, Int.reduceLE, Int.reduceSub, Int.reduceAdd, Int.reduceToNat, reduceCtorEq, Int.reduceNeg, TF3, TF4, TF9, TF25, TF43, TF44, TF47, TF53, TF55]
  (refine hK _ _ ?_; clear hK K)
  (refine AWp.seqR [0, 1, 2] [] (by decide +kernel) fun K hK => ?_; simp -implicitDefEqProofs only [EV, forall_const, implies_true, Nat.reduceAdd, Nat.reduceEqDiff, Nat.reduceBEq, Nat.reduceLeDiff, Nat.reduceSub, Nat.reduceMul, Int.reduceEq, Int.reduceLT, Int.reduceLE, Int.reduceSub, Int.reduceAdd, Int.reduceToNat, reduceCtorEq, Int.reduceNeg, TF3, TF4, TF9, TF25, TF43, TF44, TF47, TF53, TF55]; refine hK _ _ ?_; clear hK K)
  exact AWp.ret ⟨_, by rw [Try.results56]; rfl, rfl⟩
theorem ok_cloneDecl (x : Decl) (h : x.Sm) : CallOK Try.prog 44 [deV x] (deV x) := by
  (refine CallOK.of_body Try.func44 rfl (by decide) (by rw [Try.ntmps44]; simp) ?_; rw [Try.ntmps44])
  (refine AWp.seqR [0, 1, 2] [] (by decide +kernel) fun K hK => ?_; simp -implicitDefEqProofs only [EV, forall_const, implies_true, Nat.reduceAdd, Nat.reduceEqDiff, Nat.reduceBEq, Nat.reduceLeDiff, Nat.reduceSub, Nat.reduceMul, Int.reduceEq, Int.reduceLT, Int.reduceLE, Int.reduceSub, Int.reduceAdd, Int.reduceToNat, reduceCtorEq, Int.reduceNeg, TF3, TF4, TF9, TF28, TF33, TF43, TF44, TF45, TF47, TF49, TF53, TF55]; refine hK _ _ ?_; clear hK K)
  (refine AWp.seqD [0, 1, 2] [] 10 mixed (by decide +kernel) (by decide +kernel) fun K hK => ?_; simp -implicitDefEqProofs only [EV, forall_const, implies_true, Nat.reduceAdd, Nat.reduceEqDiff, Nat.reduceBEq, Nat.reduceLeDiff, Nat.reduceSub, Nat.reduceMul, Int.reduceEq, Int.reduceLT, Int.reduceLE, Int.reduceSub, Int.reduceAdd, Int.reduceToNat, reduceCtorEq, Int.reduceNeg, TF3, TF4, TF9, TF28, TF33, TF43, TF44, TF45, TF47, TF49, TF53, TF55])
  refine ⟨.d (.slice (foR x.formals)), .inl ⟨_, rfl, ok_copiesF _ _ h.formals.1 fun t ht => ok_cloneFormal t (h.formals.2 t ht), rfl⟩, ?_⟩
  simp -implicitDefEqProofs only [EV, forall_const, implies_true, Nat.reduceAdd, Nat.reduceEqDiff, Nat.reduceBEq, Nat.reduceLeDiff, Nat.reduceSub, Nat.reduceMul, Int.reduceEq, Int.reduceLT, Int.reduceLE, Int.reduceSub, Int.reduceAdd, Int.reduceToNat, reduceCtorEq, Int.reduceNeg, TF3, TF4, TF9, TF28, TF33, TF43, TF44, TF45, TF47, TF49, TF53, TF55]
  refine ⟨.d (.slice (paR x.fields)), .inl ⟨_, rfl, ok_copiesP _ _ h.fields.1 fun t ht => ok_cloneParam t (h.fields.2 t ht), rfl⟩, ?_⟩
  simp -implicitDefEqProofs only [EV, forall_const, implies_true, Nat.reduceAdd, Nat.reduceEqDiff, Nat.reduceBEq, Nat.reduceLeDiff, Nat.reduceSub, Nat.reduceMul, Int.reduceEq, Int.reduceLT, Int.reduceLE, Int.reduceSub, Int.reduceAdd, Int.reduceToNat, reduceCtorEq, Int.reduceNeg, TF3, TF4, TF9, TF28, TF33, TF43, TF44, TF45, TF47, TF49, TF53, TF55]
  refine ⟨.d (.slice (siR x.sigs)), .inl ⟨_, rfl, ok_copiesS _ _ h.sigs.1 fun t ht => ok_cloneSig t (h.sigs.2 t ht), rfl⟩, ?_⟩
  simp -implicitDefEqProofs only [EV, forall_const, implies_true, Nat.reduceAdd, Nat.reduceEqDiff, Nat.reduceBEq, Nat.reduceLeDiff, Nat.reduceSub, Nat.reduceMul, Int.reduceEq, Int.reduceLT, Int.reduceLE, Int.reduceSub, Int.reduceAdd, Int.reduceToNat, reduceCtorEq, Int.reduceNeg, TF3, TF4, TF9, TF28, TF33, TF43, TF44, TF45, TF47, TF49, TF53, TF55]
  (refine hK _ _ ?_; clear hK K)
  (refine AWp.seqD [0, 1, 2] [] 10 mixed (by decide +kernel) (by decide +kernel) fun K hK => ?_; simp -implicitDefEqProofs only [EV, forall_const, implies_true, Nat.reduceAdd, Nat.reduceEqDiff, Nat.reduceBEq, Nat.reduceLeDiff, Nat.reduceSub, Nat.reduceMul, Int.reduceEq, Int.reduceLT, Int.reduceLE, Int.reduceSub, Int.reduceAdd, Int.reduceToNat, reduceCtorEq, Int.reduceNeg, TF3, TF4, TF9, TF28, TF33, TF43, TF44, TF45, TF47, TF49, TF53, TF55])
  refine ⟨strsV x.vars, .inl ⟨_, rfl, ok_SClone _ h.vars.1, rfl⟩, ?_⟩
  simp -implicitDefEqProofs only [EV, forall_const, implies_true, Nat.reduceAdd, Nat.reduceEqDiff, Nat.reduceBEq, Nat.reduceLeDiff, Nat.reduceSub, Nat.reduceMul, Int.reduceEq, Int.reduceLT, Int.reduceLE, Int.reduceSub, Int.reduceAdd, Int.reduceToNat, reduceCtorEq, Int.reduceNeg, TF3, TF4, TF9, TF28, TF33, TF43, TF44, TF45, TF47, TF49, TF53, TF55]
  refine ⟨siV x.sig, .inl ⟨_, rfl, ok_cloneSig _ h.sig, rfl⟩, ?_⟩
  simp -implicitDefEqProofs only [EV, forall_const, implies_true, Nat.reduceAdd, Nat.reduceEqDiff, Nat.reduceBEq, Nat.reduceLeDiff, Nat.reduceSub, Nat.reduceMul, Int.reduceEq, Int.reduceLT, Int.reduceLE, Int.reduceSub, Int.reduceAdd, Int.reduceToNat, reduceCtorEq, Int.reduceNeg, TF3, TF4, TF9, TF28, TF33, TF43, TF44, TF45, TF47, TF49, TF53, TF55]
  refine ⟨exV x.body, .inl ⟨_, rfl, ok_EClone _ h.body, rfl⟩, ?_⟩
  simp -implicitDefEqProofs only [EV, forall_const, implies_true, Nat.reduceAdd, Nat.reduceEqDiff, Nat.reduceBEq, Nat.reduceLeDiff, Nat.reduceSub, Nat.reduceMul, Int.reduceEq, Int.reduceLT, Int.reduceLE, Int.reduceSub, Int.reduceAdd, Int.reduceToNat, reduceCtorEq, Int.reduceNeg, TF3, TF4, TF9, TF28, TF33, TF43, TF44, TF45, TF47, TF49, TF53, TF55]
  (refine hK _ _ ?_; clear hK K)
  (refine AWp.seqR [0, 1, 2] [] (by decide +kernel) fun K hK => ?_; simp -implicitDefEqProofs only [EV, forall_const, implies_true, Nat.reduceAdd, Nat.reduceEqDiff, Nat.reduceBEq, Nat.reduceLeDiff, Nat.reduceSub, Nat.reduceMul, Int.reduceEq, Int.reduceLT, Int.reduceLE, Int.reduceSub, Int.reduceAdd, Int.reduceToNat, reduceCtorEq, Int.reduceNeg, TF3, TF4, TF9, TF28, TF33, TF43, TF44, TF45, TF47, TF49, TF53, TF55]; refine hK _ _ ?_; clear hK K)
  exact AWp.ret ⟨_, by rw [Try.results44]; rfl, rfl⟩
theorem ok_PClone (p : Prog) (h : p.Sm) : CallOK Try.prog 36 [prV p] (prV p) := by
  (refine CallOK.of_body Try.func36 rfl (by decide) (by rw [Try.ntmps36]; simp) ?_; rw [Try.ntmps36])
  (refine AWp.seqR [0, 1, 2] [] (by decide +kernel) fun K hK => ?_; simp -implicitDefEqProofs only [EV, forall_const, implies_true, Nat.reduceAdd, Nat.reduceEqDiff, Nat.reduceBEq, Nat.reduceLeDiff, Nat.reduceSub, Nat.reduceMul, Int.reduceEq, Int.reduceLT, Int.reduceLE, Int.reduceSub, Int.reduceAdd, Int.reduceToNat, reduceCtorEq, Int.reduceNeg, TF3, TF4, TF9, TF22, TF28, TF30, TF49]; refine hK _ _ ?_; clear hK K)
  (refine AWp.seqD [0, 1, 2] [] 7 mixed (by decide +kernel) (by decide +kernel) fun K hK => ?_; simp -implicitDefEqProofs only [EV, forall_const, implies_true, Nat.reduceAdd, Nat.reduceEqDiff, Nat.reduceBEq, Nat.reduceLeDiff, Nat.reduceSub, Nat.reduceMul, Int.reduceEq, Int.reduceLT, Int.reduceLE, Int.reduceSub, Int.reduceAdd, Int.reduceToNat, reduceCtorEq, Int.reduceNeg, TF3, TF4, TF9, TF22, TF28, TF30, TF49])
  refine ⟨.d (.slice (deR p.decls)), .inl ⟨_, rfl, ok_copiesD _ _ h.decls.1 fun t ht => ok_cloneDecl t (h.decls.2 t ht), rfl⟩, ?_⟩
  simp -implicitDefEqProofs only [EV, forall_const, implies_true, Nat.reduceAdd, Nat.reduceEqDiff, Nat.reduceBEq, Nat.reduceLeDiff, Nat.reduceSub, Nat.reduceMul, Int.reduceEq, Int.reduceLT, Int.reduceLE, Int.reduceSub, Int.reduceAdd, Int.reduceToNat, reduceCtorEq, Int.reduceNeg, TF3, TF4, TF9, TF22, TF28, TF30, TF49]
  refine ⟨exV p.main, .inl ⟨_, rfl, ok_EClone _ h.main, rfl⟩, ?_⟩
  simp -implicitDefEqProofs only [EV, forall_const, implies_true, Nat.reduceAdd, Nat.reduceEqDiff, Nat.reduceBEq, Nat.reduceLeDiff, Nat.reduceSub, Nat.reduceMul, Int.reduceEq, Int.reduceLT, Int.reduceLE, Int.reduceSub, Int.reduceAdd, Int.reduceToNat, reduceCtorEq, Int.reduceNeg, TF3, TF4, TF9, TF22, TF28, TF30, TF49]
  (refine hK _ _ ?_; clear hK K)
  exact AWp.ret ⟨_, by rw [Try.results36]; rfl, rfl⟩
end Go.Abs
