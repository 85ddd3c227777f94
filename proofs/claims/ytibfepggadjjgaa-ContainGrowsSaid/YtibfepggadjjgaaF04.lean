/- castingsref11.Find, Kind; castingsref14.In; castingsref01.Compare -/
import Derived.Test.YtibfepggadjjgaaF03
namespace Go.Abs
set_option linter.unusedSimpArgs false
set_option linter.unusedVariables false
open Go Go.Proofs

/-- a type's declaration: the first of its name that is a struct or an interface -/
def Decl.isT (d : Decl) (nm : Str) : Bool := (decide (d.kind = 1) || decide (d.kind = 2)) && decide (d.name = nm)
def findD (nm : Str) : List Decl → Nat → Int
  | [], _ => -1
  | d :: ds, i => if d.isT nm = true then i else findD nm ds (i + 1)


set_option maxRecDepth 100000 in
set_option maxHeartbeats 1000000 in
theorem ok_Find (p : Prog) (nm : Str) : CallOK Try.prog 25 [prV p, strV nm] (intV (findD nm p.decls 0)) := by
  refine CallB.bd (Enters.of Try.func25 rfl (by decide)) fun hbd => ?_
  have hok := prog_ok hbd.1
  have hl := hok.decls.1
  (refine CallOK.of_body Try.func25 rfl (by decide) (by rw [Try.ntmps25]; simp) ?_; rw [Try.ntmps25])
  (refine AWp.seqR [0, 1, 2, 4, 5, 10, 38] [] (by decide +kernel) fun K hK => ?_; simp -implicitDefEqProofs only [EV, forall_const, implies_true, Nat.reduceAdd, Nat.reduceEqDiff, Nat.reduceBEq, Nat.reduceLeDiff, Nat.reduceSub, Nat.reduceMul, Int.reduceEq, Int.reduceLT, Int.reduceLE, Int.reduceSub, Int.reduceAdd, Int.reduceToNat, reduceCtorEq, Int.reduceNeg, TF3, TF4, TF9, TF22, TF30, TF49]; refine hK _ _ ?_; clear hK K)
  refine AWp.seqK fun K1 hK1 => ?_
  have fin : ∀ sl bx, findD nm p.decls 0 = -1 → K1 sl bx := by
    intro sl bx h1
    refine hK1 _ _ (AWp.weaken (sl' := []) (bx' := []) trivial trivial ?_)
    clear hK1 K1
    (refine AWp.seqR [0, 1, 2, 4, 5, 10, 38] [] (by decide +kernel) fun K hK => ?_; simp -implicitDefEqProofs only [EV, forall_const, implies_true, Nat.reduceAdd, Nat.reduceEqDiff, Nat.reduceBEq, Nat.reduceLeDiff, Nat.reduceSub, Nat.reduceMul, Int.reduceEq, Int.reduceLT, Int.reduceLE, Int.reduceSub, Int.reduceAdd, Int.reduceToNat, reduceCtorEq, Int.reduceNeg, TF3, TF4, TF9, TF22, TF30, TF49]; refine hK _ _ ?_; clear hK K)
    rw [h1]
    exact AWp.ret ⟨_, by rw [Try.results25]; rfl, rfl⟩
  (refine AWp.seqR [0, 1, 2, 4, 5, 10, 38] [] (by decide +kernel) fun K hK => ?_; simp -implicitDefEqProofs only [EV, forall_const, implies_true, Nat.reduceAdd, Nat.reduceEqDiff, Nat.reduceBEq, Nat.reduceLeDiff, Nat.reduceSub, Nat.reduceMul, Int.reduceEq, Int.reduceLT, Int.reduceLE, Int.reduceSub, Int.reduceAdd, Int.reduceToNat, reduceCtorEq, Int.reduceNeg, TF3, TF4, TF9, TF22, TF30, TF49]; refine hK _ _ ?_; clear hK K)
  refine AWp.block (AWp.loop (X := Nat) (fun x => [(5, intV x), (1, strV nm), (2, .box 2 0)]) (fun _ => [(2, .cells ((prC p).map .d))])
    (fun x => x ≤ p.decls.length ∧ findD nm (p.decls.drop x) x = findD nm p.decls 0) (fun x => p.decls.length - x) 0 ?_ ?_ ?_ ?_)
  · exact ⟨by simp, rfl⟩
  · exact (by simp [sle, vle, sget])
  · exact (by simp [ble, bget, exC, tyC, foC, paC, siC, deC, prC])
  rintro j ⟨hj, heq⟩
  by_cases hlt : (j : Int) < (p.decls.length : Int)
  · have hlt' : j < p.decls.length := by omega
    have hy : p.decls[j]? = some p.decls[j] := List.getElem?_eq_getElem hlt'
    have hdrop : p.decls.drop j = p.decls[j] :: p.decls.drop (j + 1) := List.drop_eq_getElem_cons hlt'
    generalize p.decls[j] = y at *
    rw [hdrop, findD] at heq
    refine AWp.seqK fun K2 hK2 => ?_
    (refine AWp.seqR [0, 1, 2, 4, 5, 10, 38] [] (by decide +kernel) fun K hK => ?_; simp -implicitDefEqProofs only [EV, forall_const, implies_true, Nat.reduceAdd, Nat.reduceEqDiff, Nat.reduceBEq, Nat.reduceLeDiff, Nat.reduceSub, Nat.reduceMul, Int.reduceEq, Int.reduceLT, Int.reduceLE, Int.reduceSub, Int.reduceAdd, Int.reduceToNat, reduceCtorEq, Int.reduceNeg, TF3, TF4, TF9, TF22, TF30, TF49, hlt]; refine hK _ _ ?_; clear hK K)
    refine AWp.condT rfl (AWp.skip (hK2 _ _ ?_))
    clear hK2 K2
    refine AWp.seqK fun K2 hK2 => ?_
    refine AWp.block ?_
    by_cases hk1 : y.kind = 1
    · by_cases hn : y.name = nm
      · (refine AWp.seqR [0, 1, 2, 4, 5, 10, 38] [] (by decide +kernel) fun K hK => ?_; simp -implicitDefEqProofs only [EV, forall_const, implies_true, Nat.reduceAdd, Nat.reduceEqDiff, Nat.reduceBEq, Nat.reduceLeDiff, Nat.reduceSub, Nat.reduceMul, Int.reduceEq, Int.reduceLT, Int.reduceLE, Int.reduceSub, Int.reduceAdd, Int.reduceToNat, reduceCtorEq, Int.reduceNeg, TF3, TF4, TF9, TF22, TF30, TF49, hlt, hk1, hn])
        repeat (refine ⟨by omega, deC y, deR_get hy, rfl, ?_⟩; simp -implicitDefEqProofs only [EV, forall_const, implies_true, Nat.reduceAdd, Nat.reduceEqDiff, Nat.reduceBEq, Nat.reduceLeDiff, Nat.reduceSub, Nat.reduceMul, Int.reduceEq, Int.reduceLT, Int.reduceLE, Int.reduceSub, Int.reduceAdd, Int.reduceToNat, reduceCtorEq, Int.reduceNeg, TF3, TF4, TF9, TF22, TF30, TF49, hlt, hk1, hn])
        (refine hK _ _ ?_; clear hK K)
        have ht : y.isT nm = true := by simp [Decl.isT, hk1, hn]
        rw [if_pos ht] at heq
        refine AWp.condT rfl ?_
        (refine AWp.seqR [0, 1, 2, 4, 5, 10, 38] [] (by decide +kernel) fun K hK => ?_; simp -implicitDefEqProofs only [EV, forall_const, implies_true, Nat.reduceAdd, Nat.reduceEqDiff, Nat.reduceBEq, Nat.reduceLeDiff, Nat.reduceSub, Nat.reduceMul, Int.reduceEq, Int.reduceLT, Int.reduceLE, Int.reduceSub, Int.reduceAdd, Int.reduceToNat, reduceCtorEq, Int.reduceNeg, TF3, TF4, TF9, TF22, TF30, TF49]; refine hK _ _ ?_; clear hK K)
        rw [← heq]
        exact AWp.ret ⟨_, by rw [Try.results25]; rfl, rfl⟩
      · (refine AWp.seqR [0, 1, 2, 4, 5, 10, 38] [] (by decide +kernel) fun K hK => ?_; simp -implicitDefEqProofs only [EV, forall_const, implies_true, Nat.reduceAdd, Nat.reduceEqDiff, Nat.reduceBEq, Nat.reduceLeDiff, Nat.reduceSub, Nat.reduceMul, Int.reduceEq, Int.reduceLT, Int.reduceLE, Int.reduceSub, Int.reduceAdd, Int.reduceToNat, reduceCtorEq, Int.reduceNeg, TF3, TF4, TF9, TF22, TF30, TF49, hlt, hk1, hn])
        repeat (refine ⟨by omega, deC y, deR_get hy, rfl, ?_⟩; simp -implicitDefEqProofs only [EV, forall_const, implies_true, Nat.reduceAdd, Nat.reduceEqDiff, Nat.reduceBEq, Nat.reduceLeDiff, Nat.reduceSub, Nat.reduceMul, Int.reduceEq, Int.reduceLT, Int.reduceLE, Int.reduceSub, Int.reduceAdd, Int.reduceToNat, reduceCtorEq, Int.reduceNeg, TF3, TF4, TF9, TF22, TF30, TF49, hlt, hk1, hn])
        (refine hK _ _ ?_; clear hK K)
        have ht : ¬ y.isT nm = true := by simp [Decl.isT, hk1, hn]
        rw [if_neg ht] at heq
        refine AWp.condF rfl (AWp.skip ?_)
        simp only [thenA, blockA, if_true]
        refine hK2 _ _ ?_
        clear hK2 K2
        (refine AWp.lastR [0, 1, 2, 4, 5, 10, 38] [] (by decide +kernel) fun K hK => ?_; simp -implicitDefEqProofs only [EV, forall_const, implies_true, Nat.reduceAdd, Nat.reduceEqDiff, Nat.reduceBEq, Nat.reduceLeDiff, Nat.reduceSub, Nat.reduceMul, Int.reduceEq, Int.reduceLT, Int.reduceLE, Int.reduceSub, Int.reduceAdd, Int.reduceToNat, reduceCtorEq, Int.reduceNeg, TF3, TF4, TF9, TF22, TF30, TF49])
        refine ⟨by unfold InR; unfold lim at *; omega, ?_⟩
        (refine hK _ _ ?_; clear hK K; try simp only [thenA, blockA, if_true])
        exact ⟨j + 1, ⟨by omega, heq⟩, by omega, by simp [sle, vle, sget], (by simp [ble, bget, exC, tyC, foC, paC, siC, deC, prC])⟩
    · by_cases hk2 : y.kind = 2
      · by_cases hn : y.name = nm
        · (refine AWp.seqR [0, 1, 2, 4, 5, 10, 38] [] (by decide +kernel) fun K hK => ?_; simp -implicitDefEqProofs only [EV, forall_const, implies_true, Nat.reduceAdd, Nat.reduceEqDiff, Nat.reduceBEq, Nat.reduceLeDiff, Nat.reduceSub, Nat.reduceMul, Int.reduceEq, Int.reduceLT, Int.reduceLE, Int.reduceSub, Int.reduceAdd, Int.reduceToNat, reduceCtorEq, Int.reduceNeg, TF3, TF4, TF9, TF22, TF30, TF49, hlt, hk1, hk2, hn])
          repeat (refine ⟨by omega, deC y, deR_get hy, rfl, ?_⟩; simp -implicitDefEqProofs only [EV, forall_const, implies_true, Nat.reduceAdd, Nat.reduceEqDiff, Nat.reduceBEq, Nat.reduceLeDiff, Nat.reduceSub, Nat.reduceMul, Int.reduceEq, Int.reduceLT, Int.reduceLE, Int.reduceSub, Int.reduceAdd, Int.reduceToNat, reduceCtorEq, Int.reduceNeg, TF3, TF4, TF9, TF22, TF30, TF49, hlt, hk1, hk2, hn])
          (refine hK _ _ ?_; clear hK K)
          have ht : y.isT nm = true := by simp [Decl.isT, hk1, hk2, hn]
          rw [if_pos ht] at heq
          refine AWp.condT rfl ?_
          (refine AWp.seqR [0, 1, 2, 4, 5, 10, 38] [] (by decide +kernel) fun K hK => ?_; simp -implicitDefEqProofs only [EV, forall_const, implies_true, Nat.reduceAdd, Nat.reduceEqDiff, Nat.reduceBEq, Nat.reduceLeDiff, Nat.reduceSub, Nat.reduceMul, Int.reduceEq, Int.reduceLT, Int.reduceLE, Int.reduceSub, Int.reduceAdd, Int.reduceToNat, reduceCtorEq, Int.reduceNeg, TF3, TF4, TF9, TF22, TF30, TF49]; refine hK _ _ ?_; clear hK K)
          rw [← heq]
          exact AWp.ret ⟨_, by rw [Try.results25]; rfl, rfl⟩
        · (refine AWp.seqR [0, 1, 2, 4, 5, 10, 38] [] (by decide +kernel) fun K hK => ?_; simp -implicitDefEqProofs only [EV, forall_const, implies_true, Nat.reduceAdd, Nat.reduceEqDiff, Nat.reduceBEq, Nat.reduceLeDiff, Nat.reduceSub, Nat.reduceMul, Int.reduceEq, Int.reduceLT, Int.reduceLE, Int.reduceSub, Int.reduceAdd, Int.reduceToNat, reduceCtorEq, Int.reduceNeg, TF3, TF4, TF9, TF22, TF30, TF49, hlt, hk1, hk2, hn])
          repeat (refine ⟨by omega, deC y, deR_get hy, rfl, ?_⟩; simp -implicitDefEqProofs only [EV, forall_const, implies_true, Nat.reduceAdd, Nat.reduceEqDiff, Nat.reduceBEq, Nat.reduceLeDiff, Nat.reduceSub, Nat.reduceMul, Int.reduceEq, Int.reduceLT, Int.reduceLE, Int.reduceSub, Int.reduceAdd, Int.reduceToNat, reduceCtorEq, Int.reduceNeg, TF3, TF4, TF9, TF22, TF30, TF49, hlt, hk1, hk2, hn])
          (refine hK _ _ ?_; clear hK K)
          have ht : ¬ y.isT nm = true := by simp [Decl.isT, hk1, hk2, hn]
          rw [if_neg ht] at heq
          refine AWp.condF rfl (AWp.skip ?_)
          simp only [thenA, blockA, if_true]
          refine hK2 _ _ ?_
          clear hK2 K2
          (refine AWp.lastR [0, 1, 2, 4, 5, 10, 38] [] (by decide +kernel) fun K hK => ?_; simp -implicitDefEqProofs only [EV, forall_const, implies_true, Nat.reduceAdd, Nat.reduceEqDiff, Nat.reduceBEq, Nat.reduceLeDiff, Nat.reduceSub, Nat.reduceMul, Int.reduceEq, Int.reduceLT, Int.reduceLE, Int.reduceSub, Int.reduceAdd, Int.reduceToNat, reduceCtorEq, Int.reduceNeg, TF3, TF4, TF9, TF22, TF30, TF49])
          refine ⟨by unfold InR; unfold lim at *; omega, ?_⟩
          (refine hK _ _ ?_; clear hK K; try simp only [thenA, blockA, if_true])
          exact ⟨j + 1, ⟨by omega, heq⟩, by omega, by simp [sle, vle, sget], (by simp [ble, bget, exC, tyC, foC, paC, siC, deC, prC])⟩
      · (refine AWp.seqR [0, 1, 2, 4, 5, 10, 38] [] (by decide +kernel) fun K hK => ?_; simp -implicitDefEqProofs only [EV, forall_const, implies_true, Nat.reduceAdd, Nat.reduceEqDiff, Nat.reduceBEq, Nat.reduceLeDiff, Nat.reduceSub, Nat.reduceMul, Int.reduceEq, Int.reduceLT, Int.reduceLE, Int.reduceSub, Int.reduceAdd, Int.reduceToNat, reduceCtorEq, Int.reduceNeg, TF3, TF4, TF9, TF22, TF30, TF49, hlt, hk1, hk2])
        repeat (refine ⟨by omega, deC y, deR_get hy, rfl, ?_⟩; simp -implicitDefEqProofs only [EV, forall_const, implies_true, Nat.reduceAdd, Nat.reduceEqDiff, Nat.reduceBEq, Nat.reduceLeDiff, Nat.reduceSub, Nat.reduceMul, Int.reduceEq, Int.reduceLT, Int.reduceLE, Int.reduceSub, Int.reduceAdd, Int.reduceToNat, reduceCtorEq, Int.reduceNeg, TF3, TF4, TF9, TF22, TF30, TF49, hlt, hk1, hk2])
        (refine hK _ _ ?_; clear hK K)
        have ht : ¬ y.isT nm = true := by simp [Decl.isT, hk1, hk2]
        rw [if_neg ht] at heq
        refine AWp.condF rfl (AWp.skip ?_)
        simp only [thenA, blockA, if_true]
        refine hK2 _ _ ?_
        clear hK2 K2
        (refine AWp.lastR [0, 1, 2, 4, 5, 10, 38] [] (by decide +kernel) fun K hK => ?_; simp -implicitDefEqProofs only [EV, forall_const, implies_true, Nat.reduceAdd, Nat.reduceEqDiff, Nat.reduceBEq, Nat.reduceLeDiff, Nat.reduceSub, Nat.reduceMul, Int.reduceEq, Int.reduceLT, Int.reduceLE, Int.reduceSub, Int.reduceAdd, Int.reduceToNat, reduceCtorEq, Int.reduceNeg, TF3, TF4, TF9, TF22, TF30, TF49])
        refine ⟨by unfold InR; unfold lim at *; omega, ?_⟩
        (refine hK _ _ ?_; clear hK K; try simp only [thenA, blockA, if_true])
        exact ⟨j + 1, ⟨by omega, heq⟩, by omega, by simp [sle, vle, sget], (by simp [ble, bget, exC, tyC, foC, paC, siC, deC, prC])⟩
  · refine AWp.seqK fun K2 hK2 => ?_
    (refine AWp.seqR [0, 1, 2, 4, 5, 10, 38] [] (by decide +kernel) fun K hK => ?_; simp -implicitDefEqProofs only [EV, forall_const, implies_true, Nat.reduceAdd, Nat.reduceEqDiff, Nat.reduceBEq, Nat.reduceLeDiff, Nat.reduceSub, Nat.reduceMul, Int.reduceEq, Int.reduceLT, Int.reduceLE, Int.reduceSub, Int.reduceAdd, Int.reduceToNat, reduceCtorEq, Int.reduceNeg, TF3, TF4, TF9, TF22, TF30, TF49, hlt]; refine hK _ _ ?_; clear hK K)
    refine AWp.condF rfl (AWp.exit ?_)
    simp only [thenA, blockA, if_true]
    rw [List.drop_eq_nil_of_le (by omega), findD] at heq
    exact fin _ _ heq.symm

/-- kinds -/
theorem findD_bd (nm : Str) : ∀ (l : List Decl) (i : Nat), findD nm l i = -1 ∨ ∃ k d, l[k]? = some d ∧ findD nm l i = ((i + k : Nat) : Int) ∧ d.isT nm = true
  | [], i => by simp [findD]
  | d :: ds, i => by
    simp only [findD]
    split
    · rename_i h; exact .inr ⟨0, d, rfl, rfl, h⟩
    · rcases findD_bd nm ds (i + 1) with h | ⟨k, d', h1, h2, h3⟩
      · exact .inl h
      · exact .inr ⟨k + 1, d', by simpa using h1, by rw [h2]; congr 1; omega, h3⟩
def kindOf (p : Prog) (nm : Str) : Int := match p.decls.find? (fun d => d.isT nm) with
  | some d => d.kind
  | none => 0
theorem findD_find (nm : Str) : ∀ (l : List Decl) (i : Nat), (findD nm l i = -1 ∧ l.find? (fun d => d.isT nm) = none) ∨ ∃ k d, l[k]? = some d ∧ findD nm l i = ((i + k : Nat) : Int) ∧ l.find? (fun d => d.isT nm) = some d
  | [], i => by simp [findD]
  | d :: ds, i => by
    simp only [findD, List.find?_cons]
    split
    · rename_i h; exact .inr ⟨0, d, rfl, rfl, by simp [h]⟩
    · rename_i h
      rcases findD_find nm ds (i + 1) with ⟨h1, h2⟩ | ⟨k, d', h1, h2, h3⟩
      · exact .inl ⟨h1, by simp [h, h2]⟩
      · exact .inr ⟨k + 1, d', by simpa using h1, by rw [h2]; congr 1; omega, by simp [h, h3]⟩

set_option maxRecDepth 100000 in
set_option maxHeartbeats 1000000 in
theorem ok_Kind (p : Prog) (nm : Str) : CallOK Try.prog 29 [prV p, strV nm] (intV (kindOf p nm)) := by
  refine CallB.bd (Enters.of Try.func29 rfl (by decide)) fun hbd => ?_
  have hok := prog_ok hbd.1
  have hl := hok.decls.1
  (refine CallOK.of_body Try.func29 rfl (by decide) (by rw [Try.ntmps29]; simp) ?_; rw [Try.ntmps29])
  (refine AWp.seqR [0, 1, 2, 4, 5, 10] [] (by decide +kernel) fun K hK => ?_; simp -implicitDefEqProofs only [EV, forall_const, implies_true, Nat.reduceAdd, Nat.reduceEqDiff, Nat.reduceBEq, Nat.reduceLeDiff, Nat.reduceSub, Nat.reduceMul, Int.reduceEq, Int.reduceLT, Int.reduceLE, Int.reduceSub, Int.reduceAdd, Int.reduceToNat, reduceCtorEq, Int.reduceNeg, TF3, TF4, TF9, TF22, TF30, TF49]; refine hK _ _ ?_; clear hK K)
  (refine AWp.seqR [0, 1, 2, 4, 5, 10] [] (by decide +kernel) fun K hK => ?_; simp -implicitDefEqProofs only [EV, forall_const, implies_true, Nat.reduceAdd, Nat.reduceEqDiff, Nat.reduceBEq, Nat.reduceLeDiff, Nat.reduceSub, Nat.reduceMul, Int.reduceEq, Int.reduceLT, Int.reduceLE, Int.reduceSub, Int.reduceAdd, Int.reduceToNat, reduceCtorEq, Int.reduceNeg, TF3, TF4, TF9, TF22, TF30, TF49])
  refine ⟨intV (findD nm p.decls 0), .inl ⟨_, rfl, ok_Find p nm, rfl⟩, ?_⟩
  simp -implicitDefEqProofs only [EV, forall_const, implies_true, Nat.reduceAdd, Nat.reduceEqDiff, Nat.reduceBEq, Nat.reduceLeDiff, Nat.reduceSub, Nat.reduceMul, Int.reduceEq, Int.reduceLT, Int.reduceLE, Int.reduceSub, Int.reduceAdd, Int.reduceToNat, reduceCtorEq, Int.reduceNeg, TF3, TF4, TF9, TF22, TF30, TF49]
  (refine hK _ _ ?_; clear hK K)
  refine AWp.seqK fun K1 hK1 => ?_
  rcases findD_find nm p.decls 0 with ⟨h1, h2⟩ | ⟨k, d, h1, h2, h3⟩
  · rw [h1]
    have hk : kindOf p nm = 0 := by simp [kindOf, h2]
    (refine AWp.seqR [0, 1, 2, 4, 5, 10] [] (by decide +kernel) fun K hK => ?_; simp -implicitDefEqProofs only [EV, forall_const, implies_true, Nat.reduceAdd, Nat.reduceEqDiff, Nat.reduceBEq, Nat.reduceLeDiff, Nat.reduceSub, Nat.reduceMul, Int.reduceEq, Int.reduceLT, Int.reduceLE, Int.reduceSub, Int.reduceAdd, Int.reduceToNat, reduceCtorEq, Int.reduceNeg, TF3, TF4, TF9, TF22, TF30, TF49]; refine hK _ _ ?_; clear hK K)
    refine AWp.condT rfl ?_
    (refine AWp.seqR [0, 1, 2, 4, 5, 10] [] (by decide +kernel) fun K hK => ?_; simp -implicitDefEqProofs only [EV, forall_const, implies_true, Nat.reduceAdd, Nat.reduceEqDiff, Nat.reduceBEq, Nat.reduceLeDiff, Nat.reduceSub, Nat.reduceMul, Int.reduceEq, Int.reduceLT, Int.reduceLE, Int.reduceSub, Int.reduceAdd, Int.reduceToNat, reduceCtorEq, Int.reduceNeg, TF3, TF4, TF9, TF22, TF30, TF49]; refine hK _ _ ?_; clear hK K)
    rw [hk]
    exact AWp.ret ⟨_, by rw [Try.results29]; rfl, rfl⟩
  · rw [h2]
    have hk : kindOf p nm = d.kind := by simp [kindOf, h3]
    have hge : ¬ ((0 + k : Nat) : Int) < 0 := by omega
    have hkl : ((0 + k : Nat) : Int).toNat = k := by omega
    (refine AWp.seqR [0, 1, 2, 4, 5, 10] [] (by decide +kernel) fun K hK => ?_; simp -implicitDefEqProofs only [EV, forall_const, implies_true, Nat.reduceAdd, Nat.reduceEqDiff, Nat.reduceBEq, Nat.reduceLeDiff, Nat.reduceSub, Nat.reduceMul, Int.reduceEq, Int.reduceLT, Int.reduceLE, Int.reduceSub, Int.reduceAdd, Int.reduceToNat, reduceCtorEq, Int.reduceNeg, TF3, TF4, TF9, TF22, TF30, TF49, hge]; refine hK _ _ ?_; clear hK K)
    refine AWp.condF rfl (AWp.skip (hK1 _ _ ?_))
    clear hK1 K1
    (refine AWp.seqR [0, 1, 2, 4, 5, 10] [] (by decide +kernel) fun K hK => ?_; simp -implicitDefEqProofs only [EV, forall_const, implies_true, Nat.reduceAdd, Nat.reduceEqDiff, Nat.reduceBEq, Nat.reduceLeDiff, Nat.reduceSub, Nat.reduceMul, Int.reduceEq, Int.reduceLT, Int.reduceLE, Int.reduceSub, Int.reduceAdd, Int.reduceToNat, reduceCtorEq, Int.reduceNeg, TF3, TF4, TF9, TF22, TF30, TF49, hkl])
    refine ⟨by omega, deC d, deR_get h1, rfl, ?_⟩
    simp -implicitDefEqProofs only [EV, forall_const, implies_true, Nat.reduceAdd, Nat.reduceEqDiff, Nat.reduceBEq, Nat.reduceLeDiff, Nat.reduceSub, Nat.reduceMul, Int.reduceEq, Int.reduceLT, Int.reduceLE, Int.reduceSub, Int.reduceAdd, Int.reduceToNat, reduceCtorEq, Int.reduceNeg, TF3, TF4, TF9, TF22, TF30, TF49]
    (refine hK _ _ ?_; clear hK K)
    rw [hk]
    exact AWp.ret ⟨_, by rw [Try.results29]; rfl, rfl⟩

set_option maxRecDepth 100000 in
set_option maxHeartbeats 1000000 in
theorem ok_In (l : List Str) (s : Str) : CallOK Try.prog 15 [strsV l, strV s] (boolV (decide (s ∈ l))) := by
  refine CallB.bd (Enters.of Try.func15 rfl (by decide)) fun hbd => ?_
  have hl := (strs_ok hbd.1).1
  (refine CallOK.of_body Try.func15 rfl (by decide) (by rw [Try.ntmps15]; simp) ?_; rw [Try.ntmps15])
  (refine AWp.seqR [0, 1, 4, 5, 9, 17] [] (by decide +kernel) fun K hK => ?_; simp -implicitDefEqProofs only [EV, forall_const, implies_true, Nat.reduceAdd, Nat.reduceEqDiff, Nat.reduceBEq, Nat.reduceLeDiff, Nat.reduceSub, Nat.reduceMul, Int.reduceEq, Int.reduceLT, Int.reduceLE, Int.reduceSub, Int.reduceAdd, Int.reduceToNat, reduceCtorEq, Int.reduceNeg, TF3, TF4, TF9, TF33]; refine hK _ _ ?_; clear hK K)
  refine AWp.seqK fun K1 hK1 => ?_
  have fin : ∀ sl bx, ¬ s ∈ l → K1 sl bx := by
    intro sl bx h1
    refine hK1 _ _ (AWp.weaken (sl' := []) (bx' := []) trivial trivial ?_)
    clear hK1 K1
    (refine AWp.seqR [0, 1, 4, 5, 9, 17] [] (by decide +kernel) fun K hK => ?_; simp -implicitDefEqProofs only [EV, forall_const, implies_true, Nat.reduceAdd, Nat.reduceEqDiff, Nat.reduceBEq, Nat.reduceLeDiff, Nat.reduceSub, Nat.reduceMul, Int.reduceEq, Int.reduceLT, Int.reduceLE, Int.reduceSub, Int.reduceAdd, Int.reduceToNat, reduceCtorEq, Int.reduceNeg, TF3, TF4, TF9, TF33]; refine hK _ _ ?_; clear hK K)
    rw [decide_eq_false h1]
    exact AWp.ret ⟨_, by rw [Try.results15]; rfl, rfl⟩
  (refine AWp.seqR [0, 1, 4, 5, 9, 17] [] (by decide +kernel) fun K hK => ?_; simp -implicitDefEqProofs only [EV, forall_const, implies_true, Nat.reduceAdd, Nat.reduceEqDiff, Nat.reduceBEq, Nat.reduceLeDiff, Nat.reduceSub, Nat.reduceMul, Int.reduceEq, Int.reduceLT, Int.reduceLE, Int.reduceSub, Int.reduceAdd, Int.reduceToNat, reduceCtorEq, Int.reduceNeg, TF3, TF4, TF9, TF33]; refine hK _ _ ?_; clear hK K)
  refine AWp.block (AWp.loop (X := Nat) (fun x => [(5, intV x), (0, strsV l), (1, strV s)]) (fun _ => [])
    (fun x => x ≤ l.length ∧ (s ∈ l ↔ s ∈ l.drop x)) (fun x => l.length - x) 0 ?_ ?_ ?_ ?_)
  · exact ⟨by simp, by simp⟩
  · exact (by simp [sle, vle, sget])
  · exact (by simp [ble, bget, exC, tyC, foC, paC, siC, deC, prC])
  rintro j ⟨hj, heq⟩
  by_cases hlt : (j : Int) < (l.length : Int)
  · have hlt' : j < l.length := by omega
    have hy : l[j]? = some l[j] := List.getElem?_eq_getElem hlt'
    have hmem : l[j] ∈ l := List.getElem_mem hlt'
    have hdrop : l.drop j = l[j] :: l.drop (j + 1) := List.drop_eq_getElem_cons hlt'
    generalize l[j] = y at *
    rw [hdrop, List.mem_cons] at heq
    refine AWp.seqK fun K2 hK2 => ?_
    (refine AWp.seqR [0, 1, 4, 5, 9, 17] [] (by decide +kernel) fun K hK => ?_; simp -implicitDefEqProofs only [EV, forall_const, implies_true, Nat.reduceAdd, Nat.reduceEqDiff, Nat.reduceBEq, Nat.reduceLeDiff, Nat.reduceSub, Nat.reduceMul, Int.reduceEq, Int.reduceLT, Int.reduceLE, Int.reduceSub, Int.reduceAdd, Int.reduceToNat, reduceCtorEq, Int.reduceNeg, TF3, TF4, TF9, TF33, hlt]; refine hK _ _ ?_; clear hK K)
    refine AWp.condT rfl (AWp.skip (hK2 _ _ ?_))
    clear hK2 K2
    refine AWp.seqK fun K2 hK2 => ?_
    refine AWp.block ?_
    by_cases hn : y = s
    · (refine AWp.seqR [0, 1, 4, 5, 9, 17] [] (by decide +kernel) fun K hK => ?_; simp -implicitDefEqProofs only [EV, forall_const, implies_true, Nat.reduceAdd, Nat.reduceEqDiff, Nat.reduceBEq, Nat.reduceLeDiff, Nat.reduceSub, Nat.reduceMul, Int.reduceEq, Int.reduceLT, Int.reduceLE, Int.reduceSub, Int.reduceAdd, Int.reduceToNat, reduceCtorEq, Int.reduceNeg, TF3, TF4, TF9, TF33, hlt, hn])
      refine ⟨by omega, _, strR_get hy, rfl, ?_⟩
      simp -implicitDefEqProofs only [EV, forall_const, implies_true, Nat.reduceAdd, Nat.reduceEqDiff, Nat.reduceBEq, Nat.reduceLeDiff, Nat.reduceSub, Nat.reduceMul, Int.reduceEq, Int.reduceLT, Int.reduceLE, Int.reduceSub, Int.reduceAdd, Int.reduceToNat, reduceCtorEq, Int.reduceNeg, TF3, TF4, TF9, TF33, hlt, hn]
      (refine hK _ _ ?_; clear hK K)
      refine AWp.condT rfl ?_
      (refine AWp.seqR [0, 1, 4, 5, 9, 17] [] (by decide +kernel) fun K hK => ?_; simp -implicitDefEqProofs only [EV, forall_const, implies_true, Nat.reduceAdd, Nat.reduceEqDiff, Nat.reduceBEq, Nat.reduceLeDiff, Nat.reduceSub, Nat.reduceMul, Int.reduceEq, Int.reduceLT, Int.reduceLE, Int.reduceSub, Int.reduceAdd, Int.reduceToNat, reduceCtorEq, Int.reduceNeg, TF3, TF4, TF9, TF33]; refine hK _ _ ?_; clear hK K)
      rw [decide_eq_true (heq.2 (.inl hn.symm))]
      exact AWp.ret ⟨_, by rw [Try.results15]; rfl, rfl⟩
    · (refine AWp.seqR [0, 1, 4, 5, 9, 17] [] (by decide +kernel) fun K hK => ?_; simp -implicitDefEqProofs only [EV, forall_const, implies_true, Nat.reduceAdd, Nat.reduceEqDiff, Nat.reduceBEq, Nat.reduceLeDiff, Nat.reduceSub, Nat.reduceMul, Int.reduceEq, Int.reduceLT, Int.reduceLE, Int.reduceSub, Int.reduceAdd, Int.reduceToNat, reduceCtorEq, Int.reduceNeg, TF3, TF4, TF9, TF33, hlt, hn])
      refine ⟨by omega, _, strR_get hy, rfl, ?_⟩
      simp -implicitDefEqProofs only [EV, forall_const, implies_true, Nat.reduceAdd, Nat.reduceEqDiff, Nat.reduceBEq, Nat.reduceLeDiff, Nat.reduceSub, Nat.reduceMul, Int.reduceEq, Int.reduceLT, Int.reduceLE, Int.reduceSub, Int.reduceAdd, Int.reduceToNat, reduceCtorEq, Int.reduceNeg, TF3, TF4, TF9, TF33, hlt, hn]
      (refine hK _ _ ?_; clear hK K)
      refine AWp.condF rfl (AWp.skip ?_)
      simp only [thenA, blockA, if_true]
      refine hK2 _ _ ?_
      clear hK2 K2
      (refine AWp.lastR [0, 1, 4, 5, 9, 17] [] (by decide +kernel) fun K hK => ?_; simp -implicitDefEqProofs only [EV, forall_const, implies_true, Nat.reduceAdd, Nat.reduceEqDiff, Nat.reduceBEq, Nat.reduceLeDiff, Nat.reduceSub, Nat.reduceMul, Int.reduceEq, Int.reduceLT, Int.reduceLE, Int.reduceSub, Int.reduceAdd, Int.reduceToNat, reduceCtorEq, Int.reduceNeg, TF3, TF4, TF9, TF33])
      refine ⟨by unfold InR; unfold lim at *; omega, ?_⟩
      (refine hK _ _ ?_; clear hK K; try simp only [thenA, blockA, if_true])
      exact ⟨j + 1, ⟨by omega, by rw [heq]; exact ⟨fun h => h.resolve_left (fun h => hn h.symm), .inr⟩⟩, by omega, by simp [sle, vle, sget], (by simp [ble, bget, exC, tyC, foC, paC, siC, deC, prC])⟩
  · refine AWp.seqK fun K2 hK2 => ?_
    (refine AWp.seqR [0, 1, 4, 5, 9, 17] [] (by decide +kernel) fun K hK => ?_; simp -implicitDefEqProofs only [EV, forall_const, implies_true, Nat.reduceAdd, Nat.reduceEqDiff, Nat.reduceBEq, Nat.reduceLeDiff, Nat.reduceSub, Nat.reduceMul, Int.reduceEq, Int.reduceLT, Int.reduceLE, Int.reduceSub, Int.reduceAdd, Int.reduceToNat, reduceCtorEq, Int.reduceNeg, TF3, TF4, TF9, TF33, hlt]; refine hK _ _ ?_; clear hK K)
    refine AWp.condF rfl (AWp.exit ?_)
    simp only [thenA, blockA, if_true]
    rw [List.drop_eq_nil_of_le (by omega)] at heq
    exact fin _ _ (by rw [heq]; simp)

/-- comparing -/
def cmpS : Str → Str → Int
  | [], [] => 0
  | [], _ :: _ => -1
  | _ :: _, [] => 1
  | x :: xs, y :: ys => if x < y then -1 else if y < x then 1 else cmpS xs ys
set_option maxRecDepth 100000 in
set_option maxHeartbeats 1000000 in
theorem ok_Compare (a b : Str) : CallOK Try.prog 30 [strV a, strV b] (intV (cmpS a b)) := by
  refine CallB.bd (Enters.of Try.func30 rfl (by decide)) fun hbd => ?_
  have hla := str_bd hbd.1
  have hlb := str_bd hbd.2.1
  (refine CallOK.of_body Try.func30 rfl (by decide) (by rw [Try.ntmps30]; simp) ?_; rw [Try.ntmps30])
  (refine AWp.seqR [0, 1, 4, 5, 15, 24, 31, 36, 41] [] (by decide +kernel) fun K hK => ?_; simp -implicitDefEqProofs only [EV, forall_const, implies_true, Nat.reduceAdd, Nat.reduceEqDiff, Nat.reduceBEq, Nat.reduceLeDiff, Nat.reduceSub, Nat.reduceMul, Int.reduceEq, Int.reduceLT, Int.reduceLE, Int.reduceSub, Int.reduceAdd, Int.reduceToNat, reduceCtorEq, Int.reduceNeg, TF3, TF4, TF9]; refine hK _ _ ?_; clear hK K)
  refine AWp.seqK fun K1 hK1 => ?_
  have fin : ∀ sl bx, sle sl [(0, strV a), (1, strV b)] → (cmpS a b = if (a.length : Int) < b.length then -1 else if (b.length : Int) < a.length then 1 else 0) → K1 sl bx := by
    intro sl bx hsl hc
    refine hK1 _ _ (AWp.weaken (bx' := []) hsl trivial ?_)
    clear hK1 K1
    refine AWp.seqK fun K1 hK1 => ?_
    by_cases h1 : (a.length : Int) < b.length
    · (refine AWp.seqR [0, 1, 4, 5, 15, 24, 31, 36, 41] [] (by decide +kernel) fun K hK => ?_; simp -implicitDefEqProofs only [EV, forall_const, implies_true, Nat.reduceAdd, Nat.reduceEqDiff, Nat.reduceBEq, Nat.reduceLeDiff, Nat.reduceSub, Nat.reduceMul, Int.reduceEq, Int.reduceLT, Int.reduceLE, Int.reduceSub, Int.reduceAdd, Int.reduceToNat, reduceCtorEq, Int.reduceNeg, TF3, TF4, TF9, h1]; refine hK _ _ ?_; clear hK K)
      refine AWp.condT rfl ?_
      (refine AWp.seqR [0, 1, 4, 5, 15, 24, 31, 36, 41] [] (by decide +kernel) fun K hK => ?_; simp -implicitDefEqProofs only [EV, forall_const, implies_true, Nat.reduceAdd, Nat.reduceEqDiff, Nat.reduceBEq, Nat.reduceLeDiff, Nat.reduceSub, Nat.reduceMul, Int.reduceEq, Int.reduceLT, Int.reduceLE, Int.reduceSub, Int.reduceAdd, Int.reduceToNat, reduceCtorEq, Int.reduceNeg, TF3, TF4, TF9]; refine hK _ _ ?_; clear hK K)
      rw [hc, if_pos h1]
      exact AWp.ret ⟨_, by rw [Try.results30]; rfl, rfl⟩
    · (refine AWp.seqR [0, 1, 4, 5, 15, 24, 31, 36, 41] [] (by decide +kernel) fun K hK => ?_; simp -implicitDefEqProofs only [EV, forall_const, implies_true, Nat.reduceAdd, Nat.reduceEqDiff, Nat.reduceBEq, Nat.reduceLeDiff, Nat.reduceSub, Nat.reduceMul, Int.reduceEq, Int.reduceLT, Int.reduceLE, Int.reduceSub, Int.reduceAdd, Int.reduceToNat, reduceCtorEq, Int.reduceNeg, TF3, TF4, TF9, h1]; refine hK _ _ ?_; clear hK K)
      refine AWp.condF rfl (AWp.skip (hK1 _ _ ?_))
      clear hK1 K1
      refine AWp.seqK fun K1 hK1 => ?_
      by_cases h2 : (b.length : Int) < a.length
      · (refine AWp.seqR [0, 1, 4, 5, 15, 24, 31, 36, 41] [] (by decide +kernel) fun K hK => ?_; simp -implicitDefEqProofs only [EV, forall_const, implies_true, Nat.reduceAdd, Nat.reduceEqDiff, Nat.reduceBEq, Nat.reduceLeDiff, Nat.reduceSub, Nat.reduceMul, Int.reduceEq, Int.reduceLT, Int.reduceLE, Int.reduceSub, Int.reduceAdd, Int.reduceToNat, reduceCtorEq, Int.reduceNeg, TF3, TF4, TF9, h2]; refine hK _ _ ?_; clear hK K)
        refine AWp.condT rfl ?_
        (refine AWp.seqR [0, 1, 4, 5, 15, 24, 31, 36, 41] [] (by decide +kernel) fun K hK => ?_; simp -implicitDefEqProofs only [EV, forall_const, implies_true, Nat.reduceAdd, Nat.reduceEqDiff, Nat.reduceBEq, Nat.reduceLeDiff, Nat.reduceSub, Nat.reduceMul, Int.reduceEq, Int.reduceLT, Int.reduceLE, Int.reduceSub, Int.reduceAdd, Int.reduceToNat, reduceCtorEq, Int.reduceNeg, TF3, TF4, TF9]; refine hK _ _ ?_; clear hK K)
        rw [hc, if_neg h1, if_pos h2]
        exact AWp.ret ⟨_, by rw [Try.results30]; rfl, rfl⟩
      · (refine AWp.seqR [0, 1, 4, 5, 15, 24, 31, 36, 41] [] (by decide +kernel) fun K hK => ?_; simp -implicitDefEqProofs only [EV, forall_const, implies_true, Nat.reduceAdd, Nat.reduceEqDiff, Nat.reduceBEq, Nat.reduceLeDiff, Nat.reduceSub, Nat.reduceMul, Int.reduceEq, Int.reduceLT, Int.reduceLE, Int.reduceSub, Int.reduceAdd, Int.reduceToNat, reduceCtorEq, Int.reduceNeg, TF3, TF4, TF9, h2]; refine hK _ _ ?_; clear hK K)
        refine AWp.condF rfl (AWp.skip (hK1 _ _ ?_))
        clear hK1 K1
        (refine AWp.seqR [0, 1, 4, 5, 15, 24, 31, 36, 41] [] (by decide +kernel) fun K hK => ?_; simp -implicitDefEqProofs only [EV, forall_const, implies_true, Nat.reduceAdd, Nat.reduceEqDiff, Nat.reduceBEq, Nat.reduceLeDiff, Nat.reduceSub, Nat.reduceMul, Int.reduceEq, Int.reduceLT, Int.reduceLE, Int.reduceSub, Int.reduceAdd, Int.reduceToNat, reduceCtorEq, Int.reduceNeg, TF3, TF4, TF9]; refine hK _ _ ?_; clear hK K)
        rw [hc, if_neg h1, if_neg h2]
        exact AWp.ret ⟨_, by rw [Try.results30]; rfl, rfl⟩
  (refine AWp.seqR [0, 1, 4, 5, 15, 24, 31, 36, 41] [] (by decide +kernel) fun K hK => ?_; simp -implicitDefEqProofs only [EV, forall_const, implies_true, Nat.reduceAdd, Nat.reduceEqDiff, Nat.reduceBEq, Nat.reduceLeDiff, Nat.reduceSub, Nat.reduceMul, Int.reduceEq, Int.reduceLT, Int.reduceLE, Int.reduceSub, Int.reduceAdd, Int.reduceToNat, reduceCtorEq, Int.reduceNeg, TF3, TF4, TF9]; refine hK _ _ ?_; clear hK K)
  refine AWp.block (AWp.loop (X := Nat) (fun x => [(5, intV x), (0, strV a), (1, strV b)]) (fun _ => [])
    (fun x => x ≤ a.length ∧ x ≤ b.length ∧ cmpS (a.drop x) (b.drop x) = cmpS a b) (fun x => a.length - x) 0 ?_ ?_ ?_ ?_)
  · exact ⟨by simp, by simp, rfl⟩
  · exact (by simp [sle, vle, sget])
  · exact (by simp [ble, bget, exC, tyC, foC, paC, siC, deC, prC])
  rintro j ⟨hj, hj2, heq⟩
  by_cases hlt : (j : Int) < (a.length : Int)
  · by_cases hlt2 : (j : Int) < (b.length : Int)
    · have hlt' : j < a.length := by omega
      have hlt2' : j < b.length := by omega
      have hx : a[j]? = some a[j] := List.getElem?_eq_getElem hlt'
      have hy : b[j]? = some b[j] := List.getElem?_eq_getElem hlt2'
      rw [List.drop_eq_getElem_cons hlt', List.drop_eq_getElem_cons hlt2', cmpS] at heq
      generalize a[j] = x at *
      generalize b[j] = y at *
      refine AWp.seqK fun K2 hK2 => ?_
      (refine AWp.seqR [0, 1, 4, 5, 15, 24, 31, 36, 41] [] (by decide +kernel) fun K hK => ?_; simp -implicitDefEqProofs only [EV, forall_const, implies_true, Nat.reduceAdd, Nat.reduceEqDiff, Nat.reduceBEq, Nat.reduceLeDiff, Nat.reduceSub, Nat.reduceMul, Int.reduceEq, Int.reduceLT, Int.reduceLE, Int.reduceSub, Int.reduceAdd, Int.reduceToNat, reduceCtorEq, Int.reduceNeg, TF3, TF4, TF9, hlt, hlt2]; refine hK _ _ ?_; clear hK K)
      refine AWp.condT rfl (AWp.skip (hK2 _ _ ?_))
      clear hK2 K2
      refine AWp.seqK fun K2 hK2 => ?_
      refine AWp.block ?_
      refine AWp.seqK fun K3 hK3 => ?_
      (refine AWp.seqD [0, 1, 4, 5, 15, 24, 31, 36, 41] [] 7 mixed (by decide +kernel) (by decide +kernel) fun K hK => ?_; simp -implicitDefEqProofs only [EV, forall_const, implies_true, Nat.reduceAdd, Nat.reduceEqDiff, Nat.reduceBEq, Nat.reduceLeDiff, Nat.reduceSub, Nat.reduceMul, Int.reduceEq, Int.reduceLT, Int.reduceLE, Int.reduceSub, Int.reduceAdd, Int.reduceToNat, reduceCtorEq, Int.reduceNeg, TF3, TF4, TF9, hlt, hlt2])
      refine ⟨by omega, x, hx, by omega, y, hy, ?_⟩
      (refine hK _ _ ?_; clear hK K)
      have e1 : ∀ u v : UInt8, (u.toNat : Int) < v.toNat ↔ u < v := fun u v => by rw [UInt8.lt_iff_toNat_lt]; omega
      simp only [e1]
      by_cases hxy : x < y
      · rw [if_pos hxy] at heq
        refine AWp.condT (by simp [opnd, sget, hxy]) ?_
        (refine AWp.seqR [0, 1, 4, 5, 15, 24, 31, 36, 41] [] (by decide +kernel) fun K hK => ?_; simp -implicitDefEqProofs only [EV, forall_const, implies_true, Nat.reduceAdd, Nat.reduceEqDiff, Nat.reduceBEq, Nat.reduceLeDiff, Nat.reduceSub, Nat.reduceMul, Int.reduceEq, Int.reduceLT, Int.reduceLE, Int.reduceSub, Int.reduceAdd, Int.reduceToNat, reduceCtorEq, Int.reduceNeg, TF3, TF4, TF9]; refine hK _ _ ?_; clear hK K)
        rw [← heq]
        exact AWp.ret ⟨_, by rw [Try.results30]; rfl, rfl⟩
      · rw [if_neg hxy] at heq
        refine AWp.condF (by simp [opnd, sget, hxy]) (AWp.skip ?_)
        simp only [thenA, blockA, if_true]
        refine hK3 _ _ ?_
        clear hK3 K3
        (refine AWp.seqD [0, 1, 4, 5, 15, 24, 31, 36, 41] [] 7 mixed (by decide +kernel) (by decide +kernel) fun K hK => ?_; simp -implicitDefEqProofs only [EV, forall_const, implies_true, Nat.reduceAdd, Nat.reduceEqDiff, Nat.reduceBEq, Nat.reduceLeDiff, Nat.reduceSub, Nat.reduceMul, Int.reduceEq, Int.reduceLT, Int.reduceLE, Int.reduceSub, Int.reduceAdd, Int.reduceToNat, reduceCtorEq, Int.reduceNeg, TF3, TF4, TF9, hlt, hlt2])
        refine ⟨by omega, x, hx, by omega, y, hy, ?_⟩
        (refine hK _ _ ?_; clear hK K)
        simp only [gt_iff_lt, e1]
        by_cases hyx : y < x
        · rw [if_pos hyx] at heq
          refine AWp.condT (by simp [opnd, sget, hyx]) ?_
          (refine AWp.seqR [0, 1, 4, 5, 15, 24, 31, 36, 41] [] (by decide +kernel) fun K hK => ?_; simp -implicitDefEqProofs only [EV, forall_const, implies_true, Nat.reduceAdd, Nat.reduceEqDiff, Nat.reduceBEq, Nat.reduceLeDiff, Nat.reduceSub, Nat.reduceMul, Int.reduceEq, Int.reduceLT, Int.reduceLE, Int.reduceSub, Int.reduceAdd, Int.reduceToNat, reduceCtorEq, Int.reduceNeg, TF3, TF4, TF9]; refine hK _ _ ?_; clear hK K)
          rw [← heq]
          exact AWp.ret ⟨_, by rw [Try.results30]; rfl, rfl⟩
        · rw [if_neg hyx] at heq
          refine AWp.condF (by simp [opnd, sget, hyx]) (AWp.skip ?_)
          simp only [thenA, blockA, if_true]
          refine hK2 _ _ ?_
          clear hK2 K2
          (refine AWp.lastR [0, 1, 4, 5, 15, 24, 31, 36, 41] [] (by decide +kernel) fun K hK => ?_; simp -implicitDefEqProofs only [EV, forall_const, implies_true, Nat.reduceAdd, Nat.reduceEqDiff, Nat.reduceBEq, Nat.reduceLeDiff, Nat.reduceSub, Nat.reduceMul, Int.reduceEq, Int.reduceLT, Int.reduceLE, Int.reduceSub, Int.reduceAdd, Int.reduceToNat, reduceCtorEq, Int.reduceNeg, TF3, TF4, TF9])
          refine ⟨by unfold InR; unfold lim at *; omega, ?_⟩
          (refine hK _ _ ?_; clear hK K; try simp only [thenA, blockA, if_true])
          exact ⟨j + 1, ⟨by omega, by omega, heq⟩, by omega, by simp [sle, vle, sget], (by simp [ble, bget, exC, tyC, foC, paC, siC, deC, prC])⟩
    · refine AWp.seqK fun K2 hK2 => ?_
      (refine AWp.seqR [0, 1, 4, 5, 15, 24, 31, 36, 41] [] (by decide +kernel) fun K hK => ?_; simp -implicitDefEqProofs only [EV, forall_const, implies_true, Nat.reduceAdd, Nat.reduceEqDiff, Nat.reduceBEq, Nat.reduceLeDiff, Nat.reduceSub, Nat.reduceMul, Int.reduceEq, Int.reduceLT, Int.reduceLE, Int.reduceSub, Int.reduceAdd, Int.reduceToNat, reduceCtorEq, Int.reduceNeg, TF3, TF4, TF9, hlt, hlt2]; refine hK _ _ ?_; clear hK K)
      refine AWp.condF rfl (AWp.exit ?_)
      simp only [thenA, blockA, if_true]
      have hd : b.drop j = [] := List.drop_eq_nil_of_le (by omega)
      rw [hd, List.drop_eq_getElem_cons (show j < a.length by omega), cmpS] at heq
      exact fin _ _ (by simp [sle, vle, sget]) (by rw [← heq, if_neg (by omega), if_pos (by omega)])
  · refine AWp.seqK fun K2 hK2 => ?_
    (refine AWp.seqR [0, 1, 4, 5, 15, 24, 31, 36, 41] [] (by decide +kernel) fun K hK => ?_; simp -implicitDefEqProofs only [EV, forall_const, implies_true, Nat.reduceAdd, Nat.reduceEqDiff, Nat.reduceBEq, Nat.reduceLeDiff, Nat.reduceSub, Nat.reduceMul, Int.reduceEq, Int.reduceLT, Int.reduceLE, Int.reduceSub, Int.reduceAdd, Int.reduceToNat, reduceCtorEq, Int.reduceNeg, TF3, TF4, TF9, hlt]; refine hK _ _ ?_; clear hK K)
    refine AWp.condF rfl (AWp.exit ?_)
    simp only [thenA, blockA, if_true]
    have hd : a.drop j = [] := List.drop_eq_nil_of_le (by omega)
    rw [hd] at heq
    refine fin _ _ (by simp [sle, vle, sget]) ?_
    rw [← heq]
    by_cases hb : j < b.length
    · rw [List.drop_eq_getElem_cons hb, cmpS, if_pos (by omega)]
    · rw [List.drop_eq_nil_of_le (by omega), cmpS, if_neg (by omega), if_neg (by omega)]

/-! the order -/
theorem cmpS_lt : ∀ {a b : Str}, cmpS a b < 0 ↔ a < b
  | [], [] => by simp [cmpS]
  | [], y :: ys => by simp [cmpS]
  | x :: xs, [] => by simp [cmpS]
  | x :: xs, y :: ys => by
    rw [cmpS, List.cons_lt_cons_iff]
    split
    · rename_i h; simp [h]
    · rename_i h
      split
      · rename_i h2
        have : x ≠ y := by rintro rfl; exact h h2
        simp [h, this]
      · rename_i h2
        have : x = y := UInt8.le_antisymm (UInt8.not_lt.1 h2) (UInt8.not_lt.1 h)
        rw [cmpS_lt]; simp [h, this]
end Go.Abs
