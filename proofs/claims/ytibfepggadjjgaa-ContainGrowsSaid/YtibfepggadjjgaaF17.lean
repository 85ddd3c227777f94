/- contain.fields, contains -/
import Derived.Test.YtibfepggadjjgaaF16
namespace Go.Abs
set_option linter.unusedSimpArgs false
set_option linter.unusedVariables false
open Go Go.Proofs
set_option maxRecDepth 100000
set_option maxHeartbeats 1000000

def fieldsF (p : Prog) (nm : Str) : List Decl → List Param
  | [] => []
  | d :: ds => if d.kind = 1 ∧ d.name = nm ∧ kindOf p nm = 1 then d.fields else fieldsF p nm ds
theorem ok_fields (p : Prog) (h : p.Sm) (nm : Str) : CallOK Try.prog 35 [.dptr (tabC p) 0, strV nm] (.d (.slice (paR (fieldsF p nm p.decls)))) := by
  have hlen := h.decls.1
  (refine CallOK.of_body Try.func35 rfl (by decide) (by rw [Try.ntmps35]; simp) ?_; rw [Try.ntmps35])
  (refine AWp.seqR [0, 1, 4, 6, 9, 10, 11, 12, 29] [] (by decide +kernel) fun K hK => ?_; simp -implicitDefEqProofs only [EV, forall_const, implies_true, Nat.reduceAdd, Nat.reduceEqDiff, Nat.reduceBEq, Nat.reduceLeDiff, Nat.reduceSub, Nat.reduceMul, Int.reduceEq, Int.reduceLT, Int.reduceLE, Int.reduceSub, Int.reduceAdd, Int.reduceToNat, reduceCtorEq, Int.reduceNeg, TF3, TF4, TF9, TF22, TF30, TF44, TF49, TF53]; refine hK _ _ ?_; clear hK K)
  refine AWp.seqK fun K1 hK1 => ?_
  (refine AWp.seqR [0, 1, 4, 6, 9, 10, 11, 12, 29] [] (by decide +kernel) fun K hK => ?_; simp -implicitDefEqProofs only [EV, forall_const, implies_true, Nat.reduceAdd, Nat.reduceEqDiff, Nat.reduceBEq, Nat.reduceLeDiff, Nat.reduceSub, Nat.reduceMul, Int.reduceEq, Int.reduceLT, Int.reduceLE, Int.reduceSub, Int.reduceAdd, Int.reduceToNat, reduceCtorEq, Int.reduceNeg, TF3, TF4, TF9, TF22, TF30, TF44, TF49, TF53]; refine ⟨_, .inl ⟨_, rfl, ok_TProgram p h, rfl⟩, ?_⟩; (try simp -implicitDefEqProofs only [EV, forall_const, implies_true, Nat.reduceAdd, Nat.reduceEqDiff, Nat.reduceBEq, Nat.reduceLeDiff, Nat.reduceSub, Nat.reduceMul, Int.reduceEq, Int.reduceLT, Int.reduceLE, Int.reduceSub, Int.reduceAdd, Int.reduceToNat, reduceCtorEq, Int.reduceNeg, TF3, TF4, TF9, TF22, TF30, TF44, TF49, TF53]); refine hK _ _ ?_; clear hK K)
  refine AWp.block (AWp.forIdx p.decls (X := Unit) (fun j _ => [(0, .dptr (tabC p) 0), (1, strV nm), (9, .d (.slice (deR p.decls))), (10, intV p.decls.length), (11, intV j)]) (fun _ _ => [])
    (fun j _ => fieldsF p nm (p.decls.drop j) = fieldsF p nm p.decls) () rfl (by simp [sle, vle, sget]) (by simp [ble, bget, exC, tyC, foC, paC, siC, deC, prC]) ?_ ?_)
  · intro _ hI
    rw [List.drop_length, fieldsF] at hI
    (refine AWp.seqR [0, 1, 4, 6, 9, 10, 11, 12, 29] [] (by decide +kernel) fun K hK => ?_; simp -implicitDefEqProofs only [EV, forall_const, implies_true, Nat.reduceAdd, Nat.reduceEqDiff, Nat.reduceBEq, Nat.reduceLeDiff, Nat.reduceSub, Nat.reduceMul, Int.reduceEq, Int.reduceLT, Int.reduceLE, Int.reduceSub, Int.reduceAdd, Int.reduceToNat, reduceCtorEq, Int.reduceNeg, TF3, TF4, TF9, TF22, TF30, TF44, TF49, TF53, Int.lt_irrefl]; refine hK _ _ ?_; clear hK K)
    refine AWp.stop rfl ?_
    simp only [thenA, blockA, if_true]
    refine hK1 _ _ ?_
    (refine AWp.seqR [0, 1, 4, 6, 9, 10, 11, 12, 29] [] (by decide +kernel) fun K hK => ?_; simp -implicitDefEqProofs only [EV, forall_const, implies_true, Nat.reduceAdd, Nat.reduceEqDiff, Nat.reduceBEq, Nat.reduceLeDiff, Nat.reduceSub, Nat.reduceMul, Int.reduceEq, Int.reduceLT, Int.reduceLE, Int.reduceSub, Int.reduceAdd, Int.reduceToNat, reduceCtorEq, Int.reduceNeg, TF3, TF4, TF9, TF22, TF30, TF44, TF49, TF53]; refine hK _ _ ?_; clear hK K)
    rw [← hI]
    exact AWp.ret ⟨_, by rw [Try.results35]; rfl, rfl⟩
  · intro j _ d hd hmem hdrop _ hlt hI
    rw [hdrop, fieldsF] at hI
    (refine AWp.seqR [0, 1, 4, 6, 9, 10, 11, 12, 29] [] (by decide +kernel) fun K hK => ?_; simp -implicitDefEqProofs only [EV, forall_const, implies_true, Nat.reduceAdd, Nat.reduceEqDiff, Nat.reduceBEq, Nat.reduceLeDiff, Nat.reduceSub, Nat.reduceMul, Int.reduceEq, Int.reduceLT, Int.reduceLE, Int.reduceSub, Int.reduceAdd, Int.reduceToNat, reduceCtorEq, Int.reduceNeg, TF3, TF4, TF9, TF22, TF30, TF44, TF49, TF53, hlt]; refine hK _ _ ?_; clear hK K)
    refine AWp.goOn rfl ?_
    refine AWp.seqK fun K2 hK2 => ?_
    refine AWp.block ?_
    (refine AWp.seqR [0, 1, 4, 6, 9, 10, 11, 12, 29] [] (by decide +kernel) fun K hK => ?_; simp -implicitDefEqProofs only [EV, forall_const, implies_true, Nat.reduceAdd, Nat.reduceEqDiff, Nat.reduceBEq, Nat.reduceLeDiff, Nat.reduceSub, Nat.reduceMul, Int.reduceEq, Int.reduceLT, Int.reduceLE, Int.reduceSub, Int.reduceAdd, Int.reduceToNat, reduceCtorEq, Int.reduceNeg, TF3, TF4, TF9, TF22, TF30, TF44, TF49, TF53]; refine ⟨by omega, _, deR_get hd, rfl, ?_⟩; (try simp -implicitDefEqProofs only [EV, forall_const, implies_true, Nat.reduceAdd, Nat.reduceEqDiff, Nat.reduceBEq, Nat.reduceLeDiff, Nat.reduceSub, Nat.reduceMul, Int.reduceEq, Int.reduceLT, Int.reduceLE, Int.reduceSub, Int.reduceAdd, Int.reduceToNat, reduceCtorEq, Int.reduceNeg, TF3, TF4, TF9, TF22, TF30, TF44, TF49, TF53]); refine hK _ _ ?_; clear hK K)
    have nxt : ¬ (d.kind = 1 ∧ d.name = nm ∧ kindOf p nm = 1) → ∀ sl bx, sle sl [(0, .dptr (tabC p) 0), (1, strV nm), (9, .d (.slice (deR p.decls))), (10, intV p.decls.length), (11, intV j)] → K2 sl bx := by
      intro hn sl bx hs
      rw [if_neg hn] at hI
      refine hK2 _ _ (AWp.weaken (bx' := []) hs trivial ?_)
      clear hK2 K2
      (refine AWp.lastR [0, 1, 4, 6, 9, 10, 11, 12, 29] [] (by decide +kernel) fun K hK => ?_; simp -implicitDefEqProofs only [EV, forall_const, implies_true, Nat.reduceAdd, Nat.reduceEqDiff, Nat.reduceBEq, Nat.reduceLeDiff, Nat.reduceSub, Nat.reduceMul, Int.reduceEq, Int.reduceLT, Int.reduceLE, Int.reduceSub, Int.reduceAdd, Int.reduceToNat, reduceCtorEq, Int.reduceNeg, TF3, TF4, TF9, TF22, TF30, TF44, TF49, TF53]; refine ⟨by first | (unfold InR; omega) | (simp only [InR, sm, lim] at *; omega), ?_⟩; (try simp -implicitDefEqProofs only [EV, forall_const, implies_true, Nat.reduceAdd, Nat.reduceEqDiff, Nat.reduceBEq, Nat.reduceLeDiff, Nat.reduceSub, Nat.reduceMul, Int.reduceEq, Int.reduceLT, Int.reduceLE, Int.reduceSub, Int.reduceAdd, Int.reduceToNat, reduceCtorEq, Int.reduceNeg, TF3, TF4, TF9, TF22, TF30, TF44, TF49, TF53]); refine hK _ _ ?_; clear hK K; try simp only [thenA, blockA, if_true])
      exact ⟨(), hI, (by simp [sle, vle, sget]), (by simp [ble, bget, exC, tyC, foC, paC, siC, deC, prC])⟩
    have hcase : (d.kind = 1 ∧ d.name = nm) ∨ ¬ d.kind = 1 ∨ (d.kind = 1 ∧ ¬ d.name = nm) := by
      by_cases h1 : d.kind = 1 <;> by_cases h2 : d.name = nm <;> simp [h1, h2]
    rcases hcase with ⟨h1, h2⟩ | h1 | ⟨h1, h2⟩
    · (refine AWp.seqR [0, 1, 4, 6, 9, 10, 11, 12, 29] [] (by decide +kernel) fun K hK => ?_; simp -implicitDefEqProofs only [EV, forall_const, implies_true, Nat.reduceAdd, Nat.reduceEqDiff, Nat.reduceBEq, Nat.reduceLeDiff, Nat.reduceSub, Nat.reduceMul, Int.reduceEq, Int.reduceLT, Int.reduceLE, Int.reduceSub, Int.reduceAdd, Int.reduceToNat, reduceCtorEq, Int.reduceNeg, TF3, TF4, TF9, TF22, TF30, TF44, TF49, TF53, h1, h2]; refine ⟨_, .inl ⟨_, rfl, ok_TKind p h nm, rfl⟩, ?_⟩; (try simp -implicitDefEqProofs only [EV, forall_const, implies_true, Nat.reduceAdd, Nat.reduceEqDiff, Nat.reduceBEq, Nat.reduceLeDiff, Nat.reduceSub, Nat.reduceMul, Int.reduceEq, Int.reduceLT, Int.reduceLE, Int.reduceSub, Int.reduceAdd, Int.reduceToNat, reduceCtorEq, Int.reduceNeg, TF3, TF4, TF9, TF22, TF30, TF44, TF49, TF53, h1, h2]); refine hK _ _ ?_; clear hK K)
      refine AWp.cond rfl (fun hc => ?_) (fun hc => ?_)
      · rw [if_pos ⟨h1, h2, by simpa using hc⟩] at hI
        (refine AWp.seqR [0, 1, 4, 6, 9, 10, 11, 12, 29] [] (by decide +kernel) fun K hK => ?_; simp -implicitDefEqProofs only [EV, forall_const, implies_true, Nat.reduceAdd, Nat.reduceEqDiff, Nat.reduceBEq, Nat.reduceLeDiff, Nat.reduceSub, Nat.reduceMul, Int.reduceEq, Int.reduceLT, Int.reduceLE, Int.reduceSub, Int.reduceAdd, Int.reduceToNat, reduceCtorEq, Int.reduceNeg, TF3, TF4, TF9, TF22, TF30, TF44, TF49, TF53]; refine hK _ _ ?_; clear hK K)
        rw [← hI]
        exact AWp.ret ⟨_, by rw [Try.results35]; rfl, rfl⟩
      · refine AWp.skip (nxt (by rintro ⟨_, _, h3⟩; simp [h3] at hc) _ _ (by simp [sle, vle, sget]))
    · (refine AWp.seqR [0, 1, 4, 6, 9, 10, 11, 12, 29] [] (by decide +kernel) fun K hK => ?_; simp -implicitDefEqProofs only [EV, forall_const, implies_true, Nat.reduceAdd, Nat.reduceEqDiff, Nat.reduceBEq, Nat.reduceLeDiff, Nat.reduceSub, Nat.reduceMul, Int.reduceEq, Int.reduceLT, Int.reduceLE, Int.reduceSub, Int.reduceAdd, Int.reduceToNat, reduceCtorEq, Int.reduceNeg, TF3, TF4, TF9, TF22, TF30, TF44, TF49, TF53, h1]; refine hK _ _ ?_; clear hK K)
      refine AWp.condF rfl (AWp.skip (nxt (by simp [h1]) _ _ (by simp [sle, vle, sget])))
    · (refine AWp.seqR [0, 1, 4, 6, 9, 10, 11, 12, 29] [] (by decide +kernel) fun K hK => ?_; simp -implicitDefEqProofs only [EV, forall_const, implies_true, Nat.reduceAdd, Nat.reduceEqDiff, Nat.reduceBEq, Nat.reduceLeDiff, Nat.reduceSub, Nat.reduceMul, Int.reduceEq, Int.reduceLT, Int.reduceLE, Int.reduceSub, Int.reduceAdd, Int.reduceToNat, reduceCtorEq, Int.reduceNeg, TF3, TF4, TF9, TF22, TF30, TF44, TF49, TF53, h1, h2]; refine hK _ _ ?_; clear hK K)
      refine AWp.condF rfl (AWp.skip (nxt (by simp [h2]) _ _ (by simp [sle, vle, sget])))

def gatherF (p : Prog) : List Param → List (D × D) → List (D × D)
  | [], m => m
  | f :: fs, m => gatherF p fs (f.type.gather p m)
/-- what a struct contains, as a map -/
def contM (p : Prog) (nm : Str) : List (D × D) := gatherF p (fieldsF p nm p.decls) []
theorem fieldsF_sm {p : Prog} {nm : Str} : ∀ {ds : List Decl}, (∀ d, d ∈ ds → d.Sm) → (fieldsF p nm ds).length ≤ sm ∧ ∀ f, f ∈ fieldsF p nm ds → f.Sm
  | [], _ => by simp [fieldsF]
  | d :: ds, h => by
    simp only [fieldsF]
    split
    · exact (h d (by simp)).fields
    · exact fieldsF_sm fun x hx => h x (by simp [hx])
theorem gatherF_keys {p : Prog} : ∀ (l : List Param), (∀ f, f ∈ l → f.Sm) → ∀ {m : List (D × D)}, (∀ kv, kv ∈ m → KeyAt Try.prog 9 kv.1) → ∀ kv, kv ∈ gatherF p l m → KeyAt Try.prog 9 kv.1
  | [], _, _, hm => hm
  | f :: fs, h, _, hm => gatherF_keys fs (fun u hu => h u (by simp [hu])) (gather_keys f.type (h f (by simp)).type hm)
theorem contM_keys {p : Prog} (h : p.Sm) (nm : Str) : ∀ kv, kv ∈ contM p nm → KeyAt Try.prog 9 kv.1 := gatherF_keys _ (fieldsF_sm h.decls.2).2 (by simp)

theorem ok_contains (p : Prog) (h : p.Sm) (nm : Str) : CallOK Try.prog 22 [.dptr (tabC p) 0, strV nm] (.d (.map (contM p nm))) := by
  obtain ⟨hlen, hsm⟩ := fieldsF_sm (p := p) (nm := nm) h.decls.2
  have hfd := ok_fields p h nm
  unfold contM
  generalize fieldsF p nm p.decls = L at *
  (refine CallOK.of_body Try.func22 rfl (by decide) (by rw [Try.ntmps22]; simp) ?_; rw [Try.ntmps22])
  (refine AWp.seqR [0, 1, 4, 5, 7, 8, 11, 12, 13, 14] [] (by decide +kernel) fun K hK => ?_; simp -implicitDefEqProofs only [EV, forall_const, implies_true, Nat.reduceAdd, Nat.reduceEqDiff, Nat.reduceBEq, Nat.reduceLeDiff, Nat.reduceSub, Nat.reduceMul, Int.reduceEq, Int.reduceLT, Int.reduceLE, Int.reduceSub, Int.reduceAdd, Int.reduceToNat, reduceCtorEq, Int.reduceNeg, TF3, TF4, TF9, TF25, TF44, TF53, TF58]; refine hK _ _ ?_; clear hK K)
  (refine AWp.seqR [0, 1, 4, 5, 7, 8, 11, 12, 13, 14] [] (by decide +kernel) fun K hK => ?_; simp -implicitDefEqProofs only [EV, forall_const, implies_true, Nat.reduceAdd, Nat.reduceEqDiff, Nat.reduceBEq, Nat.reduceLeDiff, Nat.reduceSub, Nat.reduceMul, Int.reduceEq, Int.reduceLT, Int.reduceLE, Int.reduceSub, Int.reduceAdd, Int.reduceToNat, reduceCtorEq, Int.reduceNeg, TF3, TF4, TF9, TF25, TF44, TF53, TF58]; refine hK _ _ ?_; clear hK K)
  refine AWp.seqK fun K1 hK1 => ?_
  (refine AWp.seqR [0, 1, 4, 5, 7, 8, 11, 12, 13, 14] [] (by decide +kernel) fun K hK => ?_; simp -implicitDefEqProofs only [EV, forall_const, implies_true, Nat.reduceAdd, Nat.reduceEqDiff, Nat.reduceBEq, Nat.reduceLeDiff, Nat.reduceSub, Nat.reduceMul, Int.reduceEq, Int.reduceLT, Int.reduceLE, Int.reduceSub, Int.reduceAdd, Int.reduceToNat, reduceCtorEq, Int.reduceNeg, TF3, TF4, TF9, TF25, TF44, TF53, TF58]; refine ⟨_, .inl ⟨_, rfl, hfd, rfl⟩, ?_⟩; (try simp -implicitDefEqProofs only [EV, forall_const, implies_true, Nat.reduceAdd, Nat.reduceEqDiff, Nat.reduceBEq, Nat.reduceLeDiff, Nat.reduceSub, Nat.reduceMul, Int.reduceEq, Int.reduceLT, Int.reduceLE, Int.reduceSub, Int.reduceAdd, Int.reduceToNat, reduceCtorEq, Int.reduceNeg, TF3, TF4, TF9, TF25, TF44, TF53, TF58]); refine hK _ _ ?_; clear hK K)
  refine AWp.block (AWp.forIdx L (fun j _ => [(0, .dptr (tabC p) 0), (5, .mp 8), (11, .d (.slice (paR L))), (12, intV L.length), (13, intV j)]) (fun _ m => [(8, .map m)])
    (fun j m => (∀ kv, kv ∈ m → KeyAt Try.prog 9 kv.1) ∧ gatherF p (L.drop j) m = gatherF p L []) [] ⟨by simp, rfl⟩ (by simp [sle, vle, sget]) (by simp [ble, bget, exC, tyC, foC, paC, siC, deC, prC]) ?_ ?_)
  · rintro m ⟨_, hI⟩
    rw [List.drop_length, gatherF] at hI
    (refine AWp.seqR [0, 1, 4, 5, 7, 8, 11, 12, 13, 14] [] (by decide +kernel) fun K hK => ?_; simp -implicitDefEqProofs only [EV, forall_const, implies_true, Nat.reduceAdd, Nat.reduceEqDiff, Nat.reduceBEq, Nat.reduceLeDiff, Nat.reduceSub, Nat.reduceMul, Int.reduceEq, Int.reduceLT, Int.reduceLE, Int.reduceSub, Int.reduceAdd, Int.reduceToNat, reduceCtorEq, Int.reduceNeg, TF3, TF4, TF9, TF25, TF44, TF53, TF58, Int.lt_irrefl]; refine hK _ _ ?_; clear hK K)
    refine AWp.stop rfl ?_
    simp only [thenA, blockA, if_true]
    refine hK1 _ _ ?_
    (refine AWp.seqR [0, 1, 4, 5, 7, 8, 11, 12, 13, 14] [] (by decide +kernel) fun K hK => ?_; simp -implicitDefEqProofs only [EV, forall_const, implies_true, Nat.reduceAdd, Nat.reduceEqDiff, Nat.reduceBEq, Nat.reduceLeDiff, Nat.reduceSub, Nat.reduceMul, Int.reduceEq, Int.reduceLT, Int.reduceLE, Int.reduceSub, Int.reduceAdd, Int.reduceToNat, reduceCtorEq, Int.reduceNeg, TF3, TF4, TF9, TF25, TF44, TF53, TF58]; refine hK _ _ ?_; clear hK K)
    rw [← hI]
    exact AWp.ret ⟨_, by rw [Try.results22]; rfl, rfl⟩
  · rintro j m f hf hmem hdrop _ hlt ⟨hm, hI⟩
    rw [hdrop, gatherF] at hI
    (refine AWp.seqR [0, 1, 4, 5, 7, 8, 11, 12, 13, 14] [] (by decide +kernel) fun K hK => ?_; simp -implicitDefEqProofs only [EV, forall_const, implies_true, Nat.reduceAdd, Nat.reduceEqDiff, Nat.reduceBEq, Nat.reduceLeDiff, Nat.reduceSub, Nat.reduceMul, Int.reduceEq, Int.reduceLT, Int.reduceLE, Int.reduceSub, Int.reduceAdd, Int.reduceToNat, reduceCtorEq, Int.reduceNeg, TF3, TF4, TF9, TF25, TF44, TF53, TF58, hlt]; refine hK _ _ ?_; clear hK K)
    refine AWp.goOn rfl ?_
    refine AWp.seqK fun K2 hK2 => ?_
    refine AWp.block ?_
    (refine AWp.seqR [0, 1, 4, 5, 7, 8, 11, 12, 13, 14] [] (by decide +kernel) fun K hK => ?_; simp -implicitDefEqProofs only [EV, forall_const, implies_true, Nat.reduceAdd, Nat.reduceEqDiff, Nat.reduceBEq, Nat.reduceLeDiff, Nat.reduceSub, Nat.reduceMul, Int.reduceEq, Int.reduceLT, Int.reduceLE, Int.reduceSub, Int.reduceAdd, Int.reduceToNat, reduceCtorEq, Int.reduceNeg, TF3, TF4, TF9, TF25, TF44, TF53, TF58]; refine ⟨by omega, _, paR_get hf, rfl, ?_⟩; (try simp -implicitDefEqProofs only [EV, forall_const, implies_true, Nat.reduceAdd, Nat.reduceEqDiff, Nat.reduceBEq, Nat.reduceLeDiff, Nat.reduceSub, Nat.reduceMul, Int.reduceEq, Int.reduceLT, Int.reduceLE, Int.reduceSub, Int.reduceAdd, Int.reduceToNat, reduceCtorEq, Int.reduceNeg, TF3, TF4, TF9, TF25, TF44, TF53, TF58]); refine hK _ _ ?_; clear hK K)
    (refine AWp.lastR [0, 1, 4, 5, 7, 8, 11, 12, 13, 14] [] (by decide +kernel) fun K hK => ?_; simp -implicitDefEqProofs only [EV, forall_const, implies_true, Nat.reduceAdd, Nat.reduceEqDiff, Nat.reduceBEq, Nat.reduceLeDiff, Nat.reduceSub, Nat.reduceMul, Int.reduceEq, Int.reduceLT, Int.reduceLE, Int.reduceSub, Int.reduceAdd, Int.reduceToNat, reduceCtorEq, Int.reduceNeg, TF3, TF4, TF9, TF25, TF44, TF53, TF58]; refine ⟨_, _, _, rfl, (by rfl), (by rfl), ok_gather p h f.type (hsm f hmem).type m hm, (by rfl), ?_⟩; (try simp -implicitDefEqProofs only [EV, forall_const, implies_true, Nat.reduceAdd, Nat.reduceEqDiff, Nat.reduceBEq, Nat.reduceLeDiff, Nat.reduceSub, Nat.reduceMul, Int.reduceEq, Int.reduceLT, Int.reduceLE, Int.reduceSub, Int.reduceAdd, Int.reduceToNat, reduceCtorEq, Int.reduceNeg, TF3, TF4, TF9, TF25, TF44, TF53, TF58]); refine hK _ _ ?_; clear hK K; try simp only [thenA, blockA, if_true])
    refine hK2 _ _ ?_
    clear hK2 K2
    (refine AWp.lastR [0, 1, 4, 5, 7, 8, 11, 12, 13, 14] [] (by decide +kernel) fun K hK => ?_; simp -implicitDefEqProofs only [EV, forall_const, implies_true, Nat.reduceAdd, Nat.reduceEqDiff, Nat.reduceBEq, Nat.reduceLeDiff, Nat.reduceSub, Nat.reduceMul, Int.reduceEq, Int.reduceLT, Int.reduceLE, Int.reduceSub, Int.reduceAdd, Int.reduceToNat, reduceCtorEq, Int.reduceNeg, TF3, TF4, TF9, TF25, TF44, TF53, TF58]; refine ⟨by first | (unfold InR; omega) | (simp only [InR, sm, lim] at *; omega), ?_⟩; (try simp -implicitDefEqProofs only [EV, forall_const, implies_true, Nat.reduceAdd, Nat.reduceEqDiff, Nat.reduceBEq, Nat.reduceLeDiff, Nat.reduceSub, Nat.reduceMul, Int.reduceEq, Int.reduceLT, Int.reduceLE, Int.reduceSub, Int.reduceAdd, Int.reduceToNat, reduceCtorEq, Int.reduceNeg, TF3, TF4, TF9, TF25, TF44, TF53, TF58]); refine hK _ _ ?_; clear hK K; try simp only [thenA, blockA, if_true])
    exact ⟨_, ⟨gather_keys f.type (hsm f hmem).type hm, hI⟩, (by simp [sle, vle, sget]), (by simp [ble, bget, exC, tyC, foC, paC, siC, deC, prC])⟩
end Go.Abs
