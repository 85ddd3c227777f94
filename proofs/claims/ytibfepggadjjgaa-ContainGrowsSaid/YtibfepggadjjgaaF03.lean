/- castingsref06.Count, Few -/
import Derived.Test.YtibfepggadjjgaaF02
namespace Go.Abs
set_option linter.unusedSimpArgs false
set_option linter.unusedVariables false
open Go Go.Proofs

def vaCount : List Str → Int → Int
  | [], n => n
  | v :: vs, n => if n ≤ 2000 then vaCount vs (n + 1 + ((v.length / 50 : Nat) : Int)) else n
def siCount : List Sig → Int → Int
  | [], n => n
  | s :: ss, n => if n ≤ 2000 then siCount ss (s.count n) else n
def Decl.count2 (d : Decl) (n : Int) : Int := if n ≤ 2000 then d.body.count (d.sig.count n) else n
def Decl.count (d : Decl) (n : Int) : Int :=
  d.count2 (vaCount d.vars (siCount d.sigs (paCount d.fields (foCount d.formals (n + 1 + ((d.name.length / 50 : Nat) : Int) + ((d.recv.length / 50 : Nat) : Int))))))
def deCount : List Decl → Int → Int
  | [], n => n
  | d :: ds, n => if n ≤ 2000 then deCount ds (d.count n) else n
def Prog.count (p : Prog) : Int := deCount p.decls (p.main.count 0)
theorem vaCount_bd : ∀ (l : List Str) (n : Int), (∀ t, t ∈ l → t.length ≤ lim) → n ≤ vaCount l n ∧ vaCount l n ≤ max n (2000 + 6000000000000)
  | [], n, _ => by simp only [vaCount]; omega
  | t :: ts, n, h => by
    simp only [vaCount]
    split
    · have h1 := div50_le (h t (by simp))
      have h2 := vaCount_bd ts (n + 1 + ((t.length / 50 : Nat) : Int)) (fun u hu => h u (by simp [hu]))
      omega
    · omega
theorem siCount_bd : ∀ (l : List Sig) (n : Int), (∀ t, t ∈ l → t.Ok) → n ≤ siCount l n ∧ siCount l n ≤ max n (2000 + 10000000000000)
  | [], n, _ => by simp only [siCount]; omega
  | t :: ts, n, h => by
    simp only [siCount]
    split
    · have h1 := Sig.count_bd t n (h t (by simp))
      have h2 := siCount_bd ts (t.count n) (fun u hu => h u (by simp [hu]))
      omega
    · omega
theorem Decl.count2_bd (d : Decl) (n : Int) (h : d.Ok) : n ≤ d.count2 n ∧ d.count2 n ≤ max n (2000 + 20000000000000) := by
  have h1 := Sig.count_bd d.sig n h.sig
  have h2 := Ex.count_bd d.body (d.sig.count n) h.body
  unfold Decl.count2
  split <;> omega
theorem Decl.count_bd (d : Decl) (n : Int) (h : d.Ok) : n ≤ d.count n ∧ d.count n ≤ max n 2000 + 30000000000000 := by
  have h1 := div50_le h.name
  have h2 := div50_le h.recv
  unfold Decl.count
  generalize hq : n + 1 + ((d.name.length / 50 : Nat) : Int) + ((d.recv.length / 50 : Nat) : Int) = n0
  have h3 := foCount_bd d.formals n0 h.formals.2
  have h4 := paCount_bd d.fields (foCount d.formals n0) h.fields.2
  have h5 := siCount_bd d.sigs (paCount d.fields (foCount d.formals n0)) h.sigs.2
  have h6 := vaCount_bd d.vars (siCount d.sigs (paCount d.fields (foCount d.formals n0))) h.vars.2
  have h7 := Decl.count2_bd d (vaCount d.vars (siCount d.sigs (paCount d.fields (foCount d.formals n0)))) h
  omega

set_option maxRecDepth 100000 in
set_option maxHeartbeats 2000000 in
theorem ok_Count06 (p : Prog) : CallOK Try.prog 21 [prV p] (intV p.count) := by
  refine CallB.bd (Enters.of Try.func21 rfl (by decide)) fun hbd => ?_
  have hok := prog_ok hbd.1
  have he := Ex.count_bd p.main 0 hok.main
  have hl := hok.decls.1
  have hcount : p.count = deCount p.decls (p.main.count 0) := rfl
  (refine CallOK.of_body Try.func21 rfl (by decide) (by rw [Try.ntmps21]; simp) ?_; rw [Try.ntmps21])
  (refine AWp.seqR [0, 1, 2, 3, 4, 5, 6, 7, 19, 53, 71, 85] [] (by decide +kernel) fun K hK => ?_; simp -implicitDefEqProofs only [EV, forall_const, implies_true, Nat.reduceAdd, Nat.reduceEqDiff, Nat.reduceBEq, Nat.reduceLeDiff, Nat.reduceSub, Nat.reduceMul, Int.reduceEq, Int.reduceLT, Int.reduceLE, Int.reduceSub, Int.reduceAdd, Int.reduceToNat, reduceCtorEq, Int.reduceNeg, TF3, TF4, TF9, TF22, TF28, TF30, TF33, TF43, TF44, TF45, TF47, TF49, TF53, TF55]; refine hK _ _ ?_; clear hK K)
  (refine AWp.seqR [0, 1, 2, 3, 4, 5, 6, 7, 19, 53, 71, 85] [] (by decide +kernel) fun K hK => ?_; simp -implicitDefEqProofs only [EV, forall_const, implies_true, Nat.reduceAdd, Nat.reduceEqDiff, Nat.reduceBEq, Nat.reduceLeDiff, Nat.reduceSub, Nat.reduceMul, Int.reduceEq, Int.reduceLT, Int.reduceLE, Int.reduceSub, Int.reduceAdd, Int.reduceToNat, reduceCtorEq, Int.reduceNeg, TF3, TF4, TF9, TF22, TF28, TF30, TF33, TF43, TF44, TF45, TF47, TF49, TF53, TF55])
  refine ⟨intV (p.main.count 0), .inl ⟨_, rfl, ok_Count05 _ 0 (by omega) (by unfold cap; omega), rfl⟩, ?_⟩
  simp -implicitDefEqProofs only [EV, forall_const, implies_true, Nat.reduceAdd, Nat.reduceEqDiff, Nat.reduceBEq, Nat.reduceLeDiff, Nat.reduceSub, Nat.reduceMul, Int.reduceEq, Int.reduceLT, Int.reduceLE, Int.reduceSub, Int.reduceAdd, Int.reduceToNat, reduceCtorEq, Int.reduceNeg, TF3, TF4, TF9, TF22, TF28, TF30, TF33, TF43, TF44, TF45, TF47, TF49, TF53, TF55]
  (refine hK _ _ ?_; clear hK K)
  generalize p.main.count 0 = n1 at *
  refine AWp.seqK fun K1 hK1 => ?_
  have fin : ∀ sl bx, sle sl [(3, intV (deCount p.decls n1))] → ble bx [] → K1 sl bx := by
    intro sl bx h1 h2
    refine hK1 _ _ (AWp.weaken h1 h2 ?_)
    clear hK1 K1
    (refine AWp.seqR [0, 1, 2, 3, 4, 5, 6, 7, 19, 53, 71, 85] [] (by decide +kernel) fun K hK => ?_; simp -implicitDefEqProofs only [EV, forall_const, implies_true, Nat.reduceAdd, Nat.reduceEqDiff, Nat.reduceBEq, Nat.reduceLeDiff, Nat.reduceSub, Nat.reduceMul, Int.reduceEq, Int.reduceLT, Int.reduceLE, Int.reduceSub, Int.reduceAdd, Int.reduceToNat, reduceCtorEq, Int.reduceNeg, TF3, TF4, TF9, TF22, TF28, TF30, TF33, TF43, TF44, TF45, TF47, TF49, TF53, TF55]; refine hK _ _ ?_; clear hK K)
    rw [hcount]
    exact AWp.ret ⟨_, by rw [Try.results21]; rfl, rfl⟩
  (refine AWp.seqR [0, 1, 2, 3, 4, 5, 6, 7, 19, 53, 71, 85] [] (by decide +kernel) fun K hK => ?_; simp -implicitDefEqProofs only [EV, forall_const, implies_true, Nat.reduceAdd, Nat.reduceEqDiff, Nat.reduceBEq, Nat.reduceLeDiff, Nat.reduceSub, Nat.reduceMul, Int.reduceEq, Int.reduceLT, Int.reduceLE, Int.reduceSub, Int.reduceAdd, Int.reduceToNat, reduceCtorEq, Int.reduceNeg, TF3, TF4, TF9, TF22, TF28, TF30, TF33, TF43, TF44, TF45, TF47, TF49, TF53, TF55]; refine hK _ _ ?_; clear hK K)
  refine AWp.block (AWp.loop (X := Nat × Int) (fun x => [(3, intV x.2), (4, intV x.1), (1, .box 1 0)]) (fun _ => [(1, .cells ((prC p).map .d))])
    (fun x => x.1 ≤ p.decls.length ∧ 0 ≤ x.2 ∧ x.2 ≤ 100000000000000 ∧ deCount (p.decls.drop x.1) x.2 = deCount p.decls n1) (fun x => p.decls.length - x.1) (0, n1) ?_ ?_ ?_ ?_)
  · exact ⟨by simp, by omega, by omega, by first | rfl | simp⟩
  · exact (by simp [sle, vle, sget])
  · exact (by simp [ble, bget, exC, tyC, foC, paC, siC, deC, prC])
  rintro ⟨j, k⟩ ⟨hj, hk0, hk1, heq⟩
  simp only at hj hk0 hk1 heq
  by_cases hlt : (j : Int) < (p.decls.length : Int)
  · have hlt' : j < p.decls.length := by omega
    have hy : p.decls[j]? = some p.decls[j] := List.getElem?_eq_getElem hlt'
    have hmemy : p.decls[j] ∈ p.decls := List.getElem_mem hlt'
    have hdrop : p.decls.drop j = p.decls[j] :: p.decls.drop (j + 1) := List.drop_eq_getElem_cons hlt'
    generalize p.decls[j] = y at *
    have hyok := hok.decls.2 y hmemy
    rw [hdrop, deCount] at heq
    refine AWp.seqK fun K2 hK2 => ?_
    by_cases hm : k ≤ 2000
    · rw [if_pos hm] at heq
      (refine AWp.seqR [0, 1, 2, 3, 4, 5, 6, 7, 19, 53, 71, 85] [] (by decide +kernel) fun K hK => ?_; simp -implicitDefEqProofs only [EV, forall_const, implies_true, Nat.reduceAdd, Nat.reduceEqDiff, Nat.reduceBEq, Nat.reduceLeDiff, Nat.reduceSub, Nat.reduceMul, Int.reduceEq, Int.reduceLT, Int.reduceLE, Int.reduceSub, Int.reduceAdd, Int.reduceToNat, reduceCtorEq, Int.reduceNeg, TF3, TF4, TF9, TF22, TF28, TF30, TF33, TF43, TF44, TF45, TF47, TF49, TF53, TF55, hlt, hm]; refine hK _ _ ?_; clear hK K)
      refine AWp.condT rfl (AWp.skip (hK2 _ _ ?_))
      clear hK2 K2
      refine AWp.seqK fun K2 hK2 => ?_
      have fin : ∀ sl bx, sle sl [(3, intV (y.count k)), (4, intV j), (1, .box 1 0)] → ble bx [(1, .cells ((prC p).map .d))] → K2 sl bx := by
        intro sl bx h1 h2
        refine hK2 _ _ (AWp.weaken h1 h2 ?_)
        clear hK2 K2
        (refine AWp.lastR [0, 1, 2, 3, 4, 5, 6, 7, 19, 53, 71, 85] [] (by decide +kernel) fun K hK => ?_; simp -implicitDefEqProofs only [EV, forall_const, implies_true, Nat.reduceAdd, Nat.reduceEqDiff, Nat.reduceBEq, Nat.reduceLeDiff, Nat.reduceSub, Nat.reduceMul, Int.reduceEq, Int.reduceLT, Int.reduceLE, Int.reduceSub, Int.reduceAdd, Int.reduceToNat, reduceCtorEq, Int.reduceNeg, TF3, TF4, TF9, TF22, TF28, TF30, TF33, TF43, TF44, TF45, TF47, TF49, TF53, TF55])
        refine ⟨by unfold InR; unfold lim at *; omega, ?_⟩
        (refine hK _ _ ?_; clear hK K; try simp only [thenA, blockA, if_true])
        have hb := Decl.count_bd y k hyok
        exact ⟨(j + 1, y.count k), ⟨by simp only; omega, by simp only; omega, by simp only; omega, heq⟩, by simp only; omega, by simp [sle, vle, sget], (by simp [ble, bget, exC, tyC, foC, paC, siC, deC, prC])⟩
      clear hK2
      have hyc : y.count k = y.count2 (vaCount y.vars (siCount y.sigs (paCount y.fields (foCount y.formals (k + 1 + ((y.name.length / 50 : Nat) : Int) + ((y.recv.length / 50 : Nat) : Int)))))) := rfl
      generalize y.count k = res at *
      have hq1 := div50_le hyok.name
      have hq2 := div50_le hyok.recv
      refine AWp.block ?_
      (refine AWp.seqR [0, 1, 2, 3, 4, 5, 6, 7, 19, 53, 71, 85] [] (by decide +kernel) fun K hK => ?_; simp -implicitDefEqProofs only [EV, forall_const, implies_true, Nat.reduceAdd, Nat.reduceEqDiff, Nat.reduceBEq, Nat.reduceLeDiff, Nat.reduceSub, Nat.reduceMul, Int.reduceEq, Int.reduceLT, Int.reduceLE, Int.reduceSub, Int.reduceAdd, Int.reduceToNat, reduceCtorEq, Int.reduceNeg, TF3, TF4, TF9, TF22, TF28, TF30, TF33, TF43, TF44, TF45, TF47, TF49, TF53, TF55, hlt])
      refine ⟨by omega, deC y, deR_get hy, rfl, ?_⟩
      simp -implicitDefEqProofs only [EV, forall_const, implies_true, Nat.reduceAdd, Nat.reduceEqDiff, Nat.reduceBEq, Nat.reduceLeDiff, Nat.reduceSub, Nat.reduceMul, Int.reduceEq, Int.reduceLT, Int.reduceLE, Int.reduceSub, Int.reduceAdd, Int.reduceToNat, reduceCtorEq, Int.reduceNeg, TF3, TF4, TF9, TF22, TF28, TF30, TF33, TF43, TF44, TF45, TF47, TF49, TF53, TF55, hlt]
      (refine hK _ _ ?_; clear hK K)
      (refine AWp.seqD [0, 1, 2, 3, 4, 5, 6, 7, 19, 53, 71, 85] [] 18 mixed (by decide +kernel) (by decide +kernel) fun K hK => ?_; simp -implicitDefEqProofs only [EV, forall_const, implies_true, Nat.reduceAdd, Nat.reduceEqDiff, Nat.reduceBEq, Nat.reduceLeDiff, Nat.reduceSub, Nat.reduceMul, Int.reduceEq, Int.reduceLT, Int.reduceLE, Int.reduceSub, Int.reduceAdd, Int.reduceToNat, reduceCtorEq, Int.reduceNeg, TF3, TF4, TF9, TF22, TF28, TF30, TF33, TF43, TF44, TF45, TF47, TF49, TF53, TF55])
      generalize hq3 : k + 1 + ((y.name.length / 50 : Nat) : Int) + ((y.recv.length / 50 : Nat) : Int) = n2 at *
      have h3 := foCount_bd y.formals n2 hyok.formals.2
      have h4 := paCount_bd y.fields (foCount y.formals n2) hyok.fields.2
      refine ⟨(by first | (unfold InR; omega) | (simp only [InR, sm, lim] at *; omega)), (by first | (unfold InR; omega) | (simp only [InR, sm, lim] at *; omega)), (by first | (unfold InR; omega) | (simp only [InR, sm, lim] at *; omega)), (by first | (unfold InR; omega) | (simp only [InR, sm, lim] at *; omega)), (by first | (unfold InR; omega) | (simp only [InR, sm, lim] at *; omega)), intV (foCount y.formals n2), .inl ⟨_, rfl, ok_foCount _ _ (by omega) (by unfold cap; omega), rfl⟩, ?_⟩
      simp -implicitDefEqProofs only [EV, forall_const, implies_true, Nat.reduceAdd, Nat.reduceEqDiff, Nat.reduceBEq, Nat.reduceLeDiff, Nat.reduceSub, Nat.reduceMul, Int.reduceEq, Int.reduceLT, Int.reduceLE, Int.reduceSub, Int.reduceAdd, Int.reduceToNat, reduceCtorEq, Int.reduceNeg, TF3, TF4, TF9, TF22, TF28, TF30, TF33, TF43, TF44, TF45, TF47, TF49, TF53, TF55, hlt]
      refine ⟨intV (paCount y.fields (foCount y.formals n2)), .inl ⟨_, rfl, ok_paCount _ _ (by omega) (by unfold cap; omega), rfl⟩, ?_⟩
      simp -implicitDefEqProofs only [EV, forall_const, implies_true, Nat.reduceAdd, Nat.reduceEqDiff, Nat.reduceBEq, Nat.reduceLeDiff, Nat.reduceSub, Nat.reduceMul, Int.reduceEq, Int.reduceLT, Int.reduceLE, Int.reduceSub, Int.reduceAdd, Int.reduceToNat, reduceCtorEq, Int.reduceNeg, TF3, TF4, TF9, TF22, TF28, TF30, TF33, TF43, TF44, TF45, TF47, TF49, TF53, TF55, hlt]
      (refine hK _ _ ?_; clear hK K)
      generalize hn3 : paCount y.fields (foCount y.formals n2) = n3 at *
      have hl1 := hyok.sigs.1
      have hl2 := hyok.vars.1
      have h5 := siCount_bd y.sigs n3 hyok.sigs.2
      have h6 := vaCount_bd y.vars (siCount y.sigs n3) hyok.vars.2
      have hb1 := Sig.count_bd y.sig (vaCount y.vars (siCount y.sigs n3)) hyok.sig
      have hb2 := Ex.count_bd y.body (y.sig.count (vaCount y.vars (siCount y.sigs n3))) hyok.body
      refine AWp.seqK fun K3 hK3 => ?_
      have fin : ∀ sl bx, sle sl [(3, intV (siCount y.sigs n3)), (4, intV j), (1, .box 1 0), (5, .box 5 0)] → ble bx [(1, .cells ((prC p).map .d)), (5, .cells ((deC y).map .d))] → K3 sl bx := by
        intro sl bx h1 h2
        refine hK3 _ _ (AWp.weaken h1 h2 ?_)
        clear hK3 K3
        generalize hn4 : siCount y.sigs n3 = n4 at *
        refine AWp.seqK fun K3 hK3 => ?_
        have fin : ∀ sl bx, sle sl [(3, intV (vaCount y.vars n4)), (4, intV j), (1, .box 1 0), (5, .box 5 0)] → ble bx [(1, .cells ((prC p).map .d)), (5, .cells ((deC y).map .d))] → K3 sl bx := by
          intro sl bx h1 h2
          refine hK3 _ _ (AWp.weaken h1 h2 ?_)
          clear hK3 K3
          generalize hn5 : vaCount y.vars n4 = n5 at *
          (refine AWp.seqR [0, 1, 2, 3, 4, 5, 6, 7, 19, 53, 71, 85] [] (by decide +kernel) fun K hK => ?_; simp -implicitDefEqProofs only [EV, forall_const, implies_true, Nat.reduceAdd, Nat.reduceEqDiff, Nat.reduceBEq, Nat.reduceLeDiff, Nat.reduceSub, Nat.reduceMul, Int.reduceEq, Int.reduceLT, Int.reduceLE, Int.reduceSub, Int.reduceAdd, Int.reduceToNat, reduceCtorEq, Int.reduceNeg, TF3, TF4, TF9, TF22, TF28, TF30, TF33, TF43, TF44, TF45, TF47, TF49, TF53, TF55]; refine hK _ _ ?_; clear hK K)
          unfold Decl.count2 at hyc
          by_cases hlast : n5 ≤ 2000
          · rw [if_pos hlast] at hyc
            refine AWp.condT (by simp [opnd, sget, hlast]) ?_
            (refine AWp.lastD [0, 1, 2, 3, 4, 5, 6, 7, 19, 53, 71, 85] [] 7 mixed (by decide +kernel) (by decide +kernel) fun K hK => ?_; simp -implicitDefEqProofs only [EV, forall_const, implies_true, Nat.reduceAdd, Nat.reduceEqDiff, Nat.reduceBEq, Nat.reduceLeDiff, Nat.reduceSub, Nat.reduceMul, Int.reduceEq, Int.reduceLT, Int.reduceLE, Int.reduceSub, Int.reduceAdd, Int.reduceToNat, reduceCtorEq, Int.reduceNeg, TF3, TF4, TF9, TF22, TF28, TF30, TF33, TF43, TF44, TF45, TF47, TF49, TF53, TF55, hlast])
            refine ⟨intV (y.sig.count n5), .inl ⟨_, rfl, ok_countSig _ _ (by omega) (by unfold cap; omega), rfl⟩, ?_⟩
            simp -implicitDefEqProofs only [EV, forall_const, implies_true, Nat.reduceAdd, Nat.reduceEqDiff, Nat.reduceBEq, Nat.reduceLeDiff, Nat.reduceSub, Nat.reduceMul, Int.reduceEq, Int.reduceLT, Int.reduceLE, Int.reduceSub, Int.reduceAdd, Int.reduceToNat, reduceCtorEq, Int.reduceNeg, TF3, TF4, TF9, TF22, TF28, TF30, TF33, TF43, TF44, TF45, TF47, TF49, TF53, TF55, hlast]
            refine ⟨intV (y.body.count (y.sig.count n5)), .inl ⟨_, rfl, ok_Count05 _ _ (by omega) (by unfold cap; omega), rfl⟩, ?_⟩
            simp -implicitDefEqProofs only [EV, forall_const, implies_true, Nat.reduceAdd, Nat.reduceEqDiff, Nat.reduceBEq, Nat.reduceLeDiff, Nat.reduceSub, Nat.reduceMul, Int.reduceEq, Int.reduceLT, Int.reduceLE, Int.reduceSub, Int.reduceAdd, Int.reduceToNat, reduceCtorEq, Int.reduceNeg, TF3, TF4, TF9, TF22, TF28, TF30, TF33, TF43, TF44, TF45, TF47, TF49, TF53, TF55, hlast]
            (refine hK _ _ ?_; clear hK K; try simp only [thenA, blockA, if_true])
            exact fin _ _ (by simp [sle, vle, sget, hyc]) (by simp [ble, bget, exC, tyC, foC, paC, siC, deC, prC])
          · rw [if_neg hlast] at hyc
            refine AWp.condF (by simp [opnd, sget, hlast]) (AWp.skip ?_)
            simp only [thenA, blockA, if_true]
            exact fin _ _ (by simp [sle, vle, sget, hyc]) (by simp [ble, bget, exC, tyC, foC, paC, siC, deC, prC])
        (refine AWp.seqR [0, 1, 2, 3, 4, 5, 6, 7, 19, 53, 71, 85] [] (by decide +kernel) fun K hK => ?_; simp -implicitDefEqProofs only [EV, forall_const, implies_true, Nat.reduceAdd, Nat.reduceEqDiff, Nat.reduceBEq, Nat.reduceLeDiff, Nat.reduceSub, Nat.reduceMul, Int.reduceEq, Int.reduceLT, Int.reduceLE, Int.reduceSub, Int.reduceAdd, Int.reduceToNat, reduceCtorEq, Int.reduceNeg, TF3, TF4, TF9, TF22, TF28, TF30, TF33, TF43, TF44, TF45, TF47, TF49, TF53, TF55]; refine hK _ _ ?_; clear hK K)
        refine AWp.block (AWp.loop (X := Nat × Int) (fun x => [(3, intV x.2), (7, intV x.1), (4, intV j), (1, .box 1 0), (5, .box 5 0)]) (fun _ => [(1, .cells ((prC p).map .d)), (5, .cells ((deC y).map .d))])
          (fun x => x.1 ≤ y.vars.length ∧ 0 ≤ x.2 ∧ x.2 ≤ cap + 100000000000000 ∧ vaCount (y.vars.drop x.1) x.2 = vaCount y.vars n4) (fun x => y.vars.length - x.1) (0, n4) ?_ ?_ ?_ ?_)
        · exact ⟨by simp, by omega, by unfold cap at *; omega, by first | rfl | simp⟩
        · simp [sle, vle, sget]
        · exact (by simp [ble, bget, exC, tyC, foC, paC, siC, deC, prC])
        rintro ⟨i, m⟩ ⟨hi, hm0, hm1, heq⟩
        simp only at hi hm0 hm1 heq
        by_cases hlt : (i : Int) < (y.vars.length : Int)
        · have hlt' : i < y.vars.length := by omega
          have hx : y.vars[i]? = some y.vars[i] := List.getElem?_eq_getElem hlt'
          have hmem : y.vars[i] ∈ y.vars := List.getElem_mem hlt'
          have hdrop : y.vars.drop i = y.vars[i] :: y.vars.drop (i + 1) := List.drop_eq_getElem_cons hlt'
          generalize y.vars[i] = x at *
          rw [hdrop, vaCount] at heq
          refine AWp.seqK fun K2 hK2 => ?_
          by_cases hm : m ≤ 2000
          · rw [if_pos hm] at heq
            (refine AWp.seqR [0, 1, 2, 3, 4, 5, 6, 7, 19, 53, 71, 85] [] (by decide +kernel) fun K hK => ?_; simp -implicitDefEqProofs only [EV, forall_const, implies_true, Nat.reduceAdd, Nat.reduceEqDiff, Nat.reduceBEq, Nat.reduceLeDiff, Nat.reduceSub, Nat.reduceMul, Int.reduceEq, Int.reduceLT, Int.reduceLE, Int.reduceSub, Int.reduceAdd, Int.reduceToNat, reduceCtorEq, Int.reduceNeg, TF3, TF4, TF9, TF22, TF28, TF30, TF33, TF43, TF44, TF45, TF47, TF49, TF53, TF55, hlt, hm]; refine hK _ _ ?_; clear hK K)
            refine AWp.condT rfl (AWp.skip (hK2 _ _ ?_))
            clear hK2 K2
            refine AWp.seqK fun K2 hK2 => ?_
            refine AWp.block ?_
            (refine AWp.lastR [0, 1, 2, 3, 4, 5, 6, 7, 19, 53, 71, 85] [] (by decide +kernel) fun K hK => ?_; simp -implicitDefEqProofs only [EV, forall_const, implies_true, Nat.reduceAdd, Nat.reduceEqDiff, Nat.reduceBEq, Nat.reduceLeDiff, Nat.reduceSub, Nat.reduceMul, Int.reduceEq, Int.reduceLT, Int.reduceLE, Int.reduceSub, Int.reduceAdd, Int.reduceToNat, reduceCtorEq, Int.reduceNeg, TF3, TF4, TF9, TF22, TF28, TF30, TF33, TF43, TF44, TF45, TF47, TF49, TF53, TF55, hlt])
            (have hq := div50_le (hyok.vars.2 x hmem); refine ⟨(by first | (unfold InR; omega) | (simp only [InR, sm, lim] at *; omega)), by omega, _, strR_get hx, rfl, ?_⟩; simp -implicitDefEqProofs only [EV, forall_const, implies_true, Nat.reduceAdd, Nat.reduceEqDiff, Nat.reduceBEq, Nat.reduceLeDiff, Nat.reduceSub, Nat.reduceMul, Int.reduceEq, Int.reduceLT, Int.reduceLE, Int.reduceSub, Int.reduceAdd, Int.reduceToNat, reduceCtorEq, Int.reduceNeg, TF3, TF4, TF9, TF22, TF28, TF30, TF33, TF43, TF44, TF45, TF47, TF49, TF53, TF55, hlt]; refine ⟨(by first | (unfold InR; omega) | (simp only [InR, sm, lim] at *; omega)), by unfold InR cap at *; omega, ?_⟩)
            (refine hK _ _ ?_; clear hK K; try simp only [thenA, blockA, if_true])
            refine hK2 _ _ ?_
            clear hK2 K2
            (refine AWp.lastR [0, 1, 2, 3, 4, 5, 6, 7, 19, 53, 71, 85] [] (by decide +kernel) fun K hK => ?_; simp -implicitDefEqProofs only [EV, forall_const, implies_true, Nat.reduceAdd, Nat.reduceEqDiff, Nat.reduceBEq, Nat.reduceLeDiff, Nat.reduceSub, Nat.reduceMul, Int.reduceEq, Int.reduceLT, Int.reduceLE, Int.reduceSub, Int.reduceAdd, Int.reduceToNat, reduceCtorEq, Int.reduceNeg, TF3, TF4, TF9, TF22, TF28, TF30, TF33, TF43, TF44, TF45, TF47, TF49, TF53, TF55])
            refine ⟨by unfold InR; unfold lim at *; omega, ?_⟩
            (refine hK _ _ ?_; clear hK K; try simp only [thenA, blockA, if_true])
            have hb := div50_le (hyok.vars.2 x hmem)
            exact ⟨(i + 1, m + 1 + ((x.length / 50 : Nat) : Int)), ⟨by simp only; omega, by simp only; omega, by simp only; unfold cap; omega, heq⟩, by simp only; omega, by simp [sle, vle, sget], (by simp [ble, bget, exC, tyC, foC, paC, siC, deC, prC])⟩
          · rw [if_neg hm] at heq
            (refine AWp.seqR [0, 1, 2, 3, 4, 5, 6, 7, 19, 53, 71, 85] [] (by decide +kernel) fun K hK => ?_; simp -implicitDefEqProofs only [EV, forall_const, implies_true, Nat.reduceAdd, Nat.reduceEqDiff, Nat.reduceBEq, Nat.reduceLeDiff, Nat.reduceSub, Nat.reduceMul, Int.reduceEq, Int.reduceLT, Int.reduceLE, Int.reduceSub, Int.reduceAdd, Int.reduceToNat, reduceCtorEq, Int.reduceNeg, TF3, TF4, TF9, TF22, TF28, TF30, TF33, TF43, TF44, TF45, TF47, TF49, TF53, TF55, hlt, hm]; refine hK _ _ ?_; clear hK K)
            refine AWp.condF rfl (AWp.exit ?_)
            simp only [thenA, blockA, if_true]
            exact fin _ _ (by simp [sle, vle, sget, heq]) (by simp [ble, bget, exC, tyC, foC, paC, siC, deC, prC])
        · refine AWp.seqK fun K2 hK2 => ?_
          (refine AWp.seqR [0, 1, 2, 3, 4, 5, 6, 7, 19, 53, 71, 85] [] (by decide +kernel) fun K hK => ?_; simp -implicitDefEqProofs only [EV, forall_const, implies_true, Nat.reduceAdd, Nat.reduceEqDiff, Nat.reduceBEq, Nat.reduceLeDiff, Nat.reduceSub, Nat.reduceMul, Int.reduceEq, Int.reduceLT, Int.reduceLE, Int.reduceSub, Int.reduceAdd, Int.reduceToNat, reduceCtorEq, Int.reduceNeg, TF3, TF4, TF9, TF22, TF28, TF30, TF33, TF43, TF44, TF45, TF47, TF49, TF53, TF55, hlt]; refine hK _ _ ?_; clear hK K)
          refine AWp.condF rfl (AWp.exit ?_)
          simp only [thenA, blockA, if_true]
          rw [List.drop_eq_nil_of_le (by omega), vaCount] at heq
          exact fin _ _ (by simp [sle, vle, sget, heq]) (by simp [ble, bget, exC, tyC, foC, paC, siC, deC, prC])
      (refine AWp.seqR [0, 1, 2, 3, 4, 5, 6, 7, 19, 53, 71, 85] [] (by decide +kernel) fun K hK => ?_; simp -implicitDefEqProofs only [EV, forall_const, implies_true, Nat.reduceAdd, Nat.reduceEqDiff, Nat.reduceBEq, Nat.reduceLeDiff, Nat.reduceSub, Nat.reduceMul, Int.reduceEq, Int.reduceLT, Int.reduceLE, Int.reduceSub, Int.reduceAdd, Int.reduceToNat, reduceCtorEq, Int.reduceNeg, TF3, TF4, TF9, TF22, TF28, TF30, TF33, TF43, TF44, TF45, TF47, TF49, TF53, TF55]; refine hK _ _ ?_; clear hK K)
      refine AWp.block (AWp.loop (X := Nat × Int) (fun x => [(3, intV x.2), (6, intV x.1), (4, intV j), (1, .box 1 0), (5, .box 5 0)]) (fun _ => [(1, .cells ((prC p).map .d)), (5, .cells ((deC y).map .d))])
        (fun x => x.1 ≤ y.sigs.length ∧ 0 ≤ x.2 ∧ x.2 ≤ cap + 100000000000000 ∧ siCount (y.sigs.drop x.1) x.2 = siCount y.sigs n3) (fun x => y.sigs.length - x.1) (0, n3) ?_ ?_ ?_ ?_)
      · exact ⟨by simp, by omega, by unfold cap at *; omega, by first | rfl | simp⟩
      · simp [sle, vle, sget]
      · exact (by simp [ble, bget, exC, tyC, foC, paC, siC, deC, prC])
      rintro ⟨i, m⟩ ⟨hi, hm0, hm1, heq⟩
      simp only at hi hm0 hm1 heq
      by_cases hlt : (i : Int) < (y.sigs.length : Int)
      · have hlt' : i < y.sigs.length := by omega
        have hx : y.sigs[i]? = some y.sigs[i] := List.getElem?_eq_getElem hlt'
        have hmem : y.sigs[i] ∈ y.sigs := List.getElem_mem hlt'
        have hdrop : y.sigs.drop i = y.sigs[i] :: y.sigs.drop (i + 1) := List.drop_eq_getElem_cons hlt'
        generalize y.sigs[i] = x at *
        rw [hdrop, siCount] at heq
        refine AWp.seqK fun K2 hK2 => ?_
        by_cases hm : m ≤ 2000
        · rw [if_pos hm] at heq
          (refine AWp.seqR [0, 1, 2, 3, 4, 5, 6, 7, 19, 53, 71, 85] [] (by decide +kernel) fun K hK => ?_; simp -implicitDefEqProofs only [EV, forall_const, implies_true, Nat.reduceAdd, Nat.reduceEqDiff, Nat.reduceBEq, Nat.reduceLeDiff, Nat.reduceSub, Nat.reduceMul, Int.reduceEq, Int.reduceLT, Int.reduceLE, Int.reduceSub, Int.reduceAdd, Int.reduceToNat, reduceCtorEq, Int.reduceNeg, TF3, TF4, TF9, TF22, TF28, TF30, TF33, TF43, TF44, TF45, TF47, TF49, TF53, TF55, hlt, hm]; refine hK _ _ ?_; clear hK K)
          refine AWp.condT rfl (AWp.skip (hK2 _ _ ?_))
          clear hK2 K2
          refine AWp.seqK fun K2 hK2 => ?_
          refine AWp.block ?_
          (refine AWp.lastR [0, 1, 2, 3, 4, 5, 6, 7, 19, 53, 71, 85] [] (by decide +kernel) fun K hK => ?_; simp -implicitDefEqProofs only [EV, forall_const, implies_true, Nat.reduceAdd, Nat.reduceEqDiff, Nat.reduceBEq, Nat.reduceLeDiff, Nat.reduceSub, Nat.reduceMul, Int.reduceEq, Int.reduceLT, Int.reduceLE, Int.reduceSub, Int.reduceAdd, Int.reduceToNat, reduceCtorEq, Int.reduceNeg, TF3, TF4, TF9, TF22, TF28, TF30, TF33, TF43, TF44, TF45, TF47, TF49, TF53, TF55, hlt])
          (refine ⟨by omega, siC x, siR_get hx, rfl, ?_⟩; simp -implicitDefEqProofs only [EV, forall_const, implies_true, Nat.reduceAdd, Nat.reduceEqDiff, Nat.reduceBEq, Nat.reduceLeDiff, Nat.reduceSub, Nat.reduceMul, Int.reduceEq, Int.reduceLT, Int.reduceLE, Int.reduceSub, Int.reduceAdd, Int.reduceToNat, reduceCtorEq, Int.reduceNeg, TF3, TF4, TF9, TF22, TF28, TF30, TF33, TF43, TF44, TF45, TF47, TF49, TF53, TF55, hlt]; refine ⟨intV (x.count m), .inl ⟨_, rfl, ok_countSig x m hm0 (by unfold cap; omega), rfl⟩, ?_⟩; simp -implicitDefEqProofs only [EV, forall_const, implies_true, Nat.reduceAdd, Nat.reduceEqDiff, Nat.reduceBEq, Nat.reduceLeDiff, Nat.reduceSub, Nat.reduceMul, Int.reduceEq, Int.reduceLT, Int.reduceLE, Int.reduceSub, Int.reduceAdd, Int.reduceToNat, reduceCtorEq, Int.reduceNeg, TF3, TF4, TF9, TF22, TF28, TF30, TF33, TF43, TF44, TF45, TF47, TF49, TF53, TF55, hlt])
          (refine hK _ _ ?_; clear hK K; try simp only [thenA, blockA, if_true])
          refine hK2 _ _ ?_
          clear hK2 K2
          (refine AWp.lastR [0, 1, 2, 3, 4, 5, 6, 7, 19, 53, 71, 85] [] (by decide +kernel) fun K hK => ?_; simp -implicitDefEqProofs only [EV, forall_const, implies_true, Nat.reduceAdd, Nat.reduceEqDiff, Nat.reduceBEq, Nat.reduceLeDiff, Nat.reduceSub, Nat.reduceMul, Int.reduceEq, Int.reduceLT, Int.reduceLE, Int.reduceSub, Int.reduceAdd, Int.reduceToNat, reduceCtorEq, Int.reduceNeg, TF3, TF4, TF9, TF22, TF28, TF30, TF33, TF43, TF44, TF45, TF47, TF49, TF53, TF55])
          refine ⟨by unfold InR; unfold lim at *; omega, ?_⟩
          (refine hK _ _ ?_; clear hK K; try simp only [thenA, blockA, if_true])
          have hb := Sig.count_bd x m (hyok.sigs.2 x hmem)
          exact ⟨(i + 1, x.count m), ⟨by simp only; omega, by simp only; omega, by simp only; unfold cap; omega, heq⟩, by simp only; omega, by simp [sle, vle, sget], (by simp [ble, bget, exC, tyC, foC, paC, siC, deC, prC])⟩
        · rw [if_neg hm] at heq
          (refine AWp.seqR [0, 1, 2, 3, 4, 5, 6, 7, 19, 53, 71, 85] [] (by decide +kernel) fun K hK => ?_; simp -implicitDefEqProofs only [EV, forall_const, implies_true, Nat.reduceAdd, Nat.reduceEqDiff, Nat.reduceBEq, Nat.reduceLeDiff, Nat.reduceSub, Nat.reduceMul, Int.reduceEq, Int.reduceLT, Int.reduceLE, Int.reduceSub, Int.reduceAdd, Int.reduceToNat, reduceCtorEq, Int.reduceNeg, TF3, TF4, TF9, TF22, TF28, TF30, TF33, TF43, TF44, TF45, TF47, TF49, TF53, TF55, hlt, hm]; refine hK _ _ ?_; clear hK K)
          refine AWp.condF rfl (AWp.exit ?_)
          simp only [thenA, blockA, if_true]
          exact fin _ _ (by simp [sle, vle, sget, heq]) (by simp [ble, bget, exC, tyC, foC, paC, siC, deC, prC])
      · refine AWp.seqK fun K2 hK2 => ?_
        (refine AWp.seqR [0, 1, 2, 3, 4, 5, 6, 7, 19, 53, 71, 85] [] (by decide +kernel) fun K hK => ?_; simp -implicitDefEqProofs only [EV, forall_const, implies_true, Nat.reduceAdd, Nat.reduceEqDiff, Nat.reduceBEq, Nat.reduceLeDiff, Nat.reduceSub, Nat.reduceMul, Int.reduceEq, Int.reduceLT, Int.reduceLE, Int.reduceSub, Int.reduceAdd, Int.reduceToNat, reduceCtorEq, Int.reduceNeg, TF3, TF4, TF9, TF22, TF28, TF30, TF33, TF43, TF44, TF45, TF47, TF49, TF53, TF55, hlt]; refine hK _ _ ?_; clear hK K)
        refine AWp.condF rfl (AWp.exit ?_)
        simp only [thenA, blockA, if_true]
        rw [List.drop_eq_nil_of_le (by omega), siCount] at heq
        exact fin _ _ (by simp [sle, vle, sget, heq]) (by simp [ble, bget, exC, tyC, foC, paC, siC, deC, prC])
    · rw [if_neg hm] at heq
      (refine AWp.seqR [0, 1, 2, 3, 4, 5, 6, 7, 19, 53, 71, 85] [] (by decide +kernel) fun K hK => ?_; simp -implicitDefEqProofs only [EV, forall_const, implies_true, Nat.reduceAdd, Nat.reduceEqDiff, Nat.reduceBEq, Nat.reduceLeDiff, Nat.reduceSub, Nat.reduceMul, Int.reduceEq, Int.reduceLT, Int.reduceLE, Int.reduceSub, Int.reduceAdd, Int.reduceToNat, reduceCtorEq, Int.reduceNeg, TF3, TF4, TF9, TF22, TF28, TF30, TF33, TF43, TF44, TF45, TF47, TF49, TF53, TF55, hlt, hm]; refine hK _ _ ?_; clear hK K)
      refine AWp.condF rfl (AWp.exit ?_)
      simp only [thenA, blockA, if_true]
      exact fin _ _ (by simp [sle, vle, sget, heq]) (by simp [ble, bget, exC, tyC, foC, paC, siC, deC, prC])
  · refine AWp.seqK fun K2 hK2 => ?_
    (refine AWp.seqR [0, 1, 2, 3, 4, 5, 6, 7, 19, 53, 71, 85] [] (by decide +kernel) fun K hK => ?_; simp -implicitDefEqProofs only [EV, forall_const, implies_true, Nat.reduceAdd, Nat.reduceEqDiff, Nat.reduceBEq, Nat.reduceLeDiff, Nat.reduceSub, Nat.reduceMul, Int.reduceEq, Int.reduceLT, Int.reduceLE, Int.reduceSub, Int.reduceAdd, Int.reduceToNat, reduceCtorEq, Int.reduceNeg, TF3, TF4, TF9, TF22, TF28, TF30, TF33, TF43, TF44, TF45, TF47, TF49, TF53, TF55, hlt]; refine hK _ _ ?_; clear hK K)
    refine AWp.condF rfl (AWp.exit ?_)
    simp only [thenA, blockA, if_true]
    rw [List.drop_eq_nil_of_le (by omega), deCount] at heq
    exact fin _ _ (by simp [sle, vle, sget, heq]) (by simp [ble, bget, exC, tyC, foC, paC, siC, deC, prC])

theorem Prog.count_bd (p : Prog) (h : p.Ok) : 0 ≤ p.count := by
  have h1 := (Ex.count_bd p.main 0 h.main).1
  have h2 : ∀ (l : List Decl) (n : Int), (∀ d, d ∈ l → d.Ok) → n ≤ deCount l n := by
    intro l
    induction l with
    | nil => intro n _; simp [deCount]
    | cons d l ih =>
      intro n hl
      simp only [deCount]
      split
      · have h3 := Decl.count_bd d n (hl d (by simp))
        have h4 := ih (d.count n) (fun u hu => hl u (by simp [hu]))
        omega
      · omega
  have h3 := h2 p.decls (p.main.count 0) h.decls.2
  unfold Prog.count
  omega
set_option maxRecDepth 100000 in
set_option maxHeartbeats 1000000 in
theorem ok_Few06 (p : Prog) : CallOK Try.prog 8 [prV p] (boolV (decide (p.count ≤ 600))) := by
  (refine CallOK.of_body Try.func8 rfl (by decide) (by rw [Try.ntmps8]; simp) ?_; rw [Try.ntmps8])
  (refine AWp.seqR [0, 1, 2] [] (by decide +kernel) fun K hK => ?_; simp -implicitDefEqProofs only [EV, forall_const, implies_true, Nat.reduceAdd, Nat.reduceEqDiff, Nat.reduceBEq, Nat.reduceLeDiff, Nat.reduceSub, Nat.reduceMul, Int.reduceEq, Int.reduceLT, Int.reduceLE, Int.reduceSub, Int.reduceAdd, Int.reduceToNat, reduceCtorEq, Int.reduceNeg, TF3, TF4, TF9, TF30]; refine hK _ _ ?_; clear hK K)
  (refine AWp.seqR [0, 1, 2] [] (by decide +kernel) fun K hK => ?_; simp -implicitDefEqProofs only [EV, forall_const, implies_true, Nat.reduceAdd, Nat.reduceEqDiff, Nat.reduceBEq, Nat.reduceLeDiff, Nat.reduceSub, Nat.reduceMul, Int.reduceEq, Int.reduceLT, Int.reduceLE, Int.reduceSub, Int.reduceAdd, Int.reduceToNat, reduceCtorEq, Int.reduceNeg, TF3, TF4, TF9, TF30])
  refine ⟨intV p.count, .inl ⟨_, rfl, ok_Count06 p, rfl⟩, ?_⟩
  simp -implicitDefEqProofs only [EV, forall_const, implies_true, Nat.reduceAdd, Nat.reduceEqDiff, Nat.reduceBEq, Nat.reduceLeDiff, Nat.reduceSub, Nat.reduceMul, Int.reduceEq, Int.reduceLT, Int.reduceLE, Int.reduceSub, Int.reduceAdd, Int.reduceToNat, reduceCtorEq, Int.reduceNeg, TF3, TF4, TF9, TF30]
  (refine hK _ _ ?_; clear hK K)
  exact AWp.ret ⟨_, by rw [Try.results8]; rfl, rfl⟩
end Go.Abs
