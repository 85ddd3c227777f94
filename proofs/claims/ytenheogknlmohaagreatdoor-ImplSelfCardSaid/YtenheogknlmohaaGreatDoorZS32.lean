/- the walk of ImplSelf, given that awake answers true -/
import Derived.Test.YtenheogknlmohaaGreatDoorZS29
import Derived.Test.YtenheogknlmohaaGreatDoorZP13
namespace Go.Abs
set_option linter.unusedSimpArgs false
set_option linter.unusedVariables false
open Go Go.Proofs
set_option maxRecDepth 100000
set_option maxHeartbeats 1000000

theorem foR_takeL (l : List Formal) (j : Nat) : (foR l).take j = foR (l.take j) := by simp [foR, List.map_take]
theorem isT_self {d : Decl} (h : d.kind = 1 ∨ d.kind = 2) : d.isT d.name = true := by
  simp only [Decl.isT, Bool.and_eq_true, Bool.or_eq_true, decide_eq_true_eq, and_true]; exact h
theorem declT_self {p : Prog} {d : Decl} (hd : d ∈ p.decls) (h : d.kind = 1 ∨ d.kind = 2) : ∃ (k : Nat) (e : Decl), p.decls[k]? = some e ∧ findD d.name p.decls 0 = (k : Int) ∧ formalsT p d.name = e.formals ∧ kindOf p d.name ≠ 0 := by
  rcases findD_find d.name p.decls 0 with ⟨_, h2⟩ | ⟨k, e, h1, h2, h3⟩
  · have := List.find?_eq_none.1 h2 d hd
    exact absurd (isT_self h) this
  · refine ⟨k, e, h1, by rw [h2]; simp, ?_, ?_⟩
    · have : declT p d.name = some e := h3
      exact (kind_some this).2
    · have : declT p d.name = some e := h3
      rw [(kind_some this).1]
      have := List.find?_some h3
      simp only [Decl.isT, Bool.and_eq_true, Bool.or_eq_true, decide_eq_true_eq] at this
      omega
/-- what the law asks of the formals up to a place -/
def selfI (p : Prog) (l fs : List Formal) (j : Nat) : Prop := ∀ (k : Nat) (f g : Formal), k < j → l[k]? = some f → fs[k]? = some g → findV (l.take k) (varT f) < 0 ∧ g.name = f.name ∧ sameT g.bound f.bound = true ∧ isIface p l f.bound = true
theorem law13_self (haw : CallOK Tryz.prog 28 [] (boolV true)) (p : Prog) (i : Int) (hi : (Lit.int .u8 i).wf = true) : CallOK Tryz.prog 10 [prV p, .d (.int .u8 i)] (boolV true) := by
  have h1 := ok_Few06 p
  by_cases g1 : p.count ≤ 600
  · rw [decide_eq_true g1] at h1
    have hp : p.Sm := (Prog.count_sm p g1).1
    by_cases g2 : p.decls.length = 0
    · have g2' : (p.decls.length : Int) = 0 := by omega
      (refine CallOK.of_body Tryz.func10 rfl (by decide) (by rw [Tryz.ntmps10]; simp) ?_; rw [Tryz.ntmps10])
      (refine AWp.seqR [0, 1, 2, 4, 5, 6, 7, 8, 9, 22, 56, 67, 69, 130] [] (by decide +kernel) fun K hK => ?_; simp -implicitDefEqProofs only [EV, Nat.reduceAdd, Nat.reduceEqDiff, Nat.reduceLeDiff, reduceCtorEq, ]; refine hK _ _ ?_; clear hK K)
      refine AWp.seqK fun K1 hK1 => ?_
      (refine AWp.seqR [0, 1, 2, 4, 5, 6, 7, 8, 9, 22, 56, 67, 69, 130] [] (by decide +kernel) fun K hK => ?_; simp -implicitDefEqProofs only [EV, Nat.reduceAdd, Nat.reduceEqDiff, reduceCtorEq, ]; refine ⟨_, .inl ⟨_, rfl, haw, rfl⟩, ?_⟩; (try simp -implicitDefEqProofs only [EV, Nat.reduceAdd, Nat.reduceEqDiff, reduceCtorEq, TF30, ]); refine ⟨_, .inl ⟨_, rfl, h1, rfl⟩, ?_⟩; (try simp -implicitDefEqProofs only [EV, Nat.reduceEqDiff, reduceCtorEq, TF22, TF30, g2']); refine hK _ _ ?_; clear hK K)
      refine AWp.takeIfK rfl ?_
      (refine AWp.seqR [0, 1, 2, 4, 5, 6, 7, 8, 9, 22, 56, 67, 69, 130] [] (by decide +kernel) fun K hK => ?_; simp -implicitDefEqProofs only [EV, Nat.reduceAdd, Nat.reduceEqDiff, reduceCtorEq, ]; refine ⟨_, .inl ⟨_, rfl, haw, rfl⟩, ?_⟩; (try simp -implicitDefEqProofs only [EV, ]); refine hK _ _ ?_; clear hK K)
      exact AWp.ret ⟨_, by rw [Tryz.results10]; rfl, rfl⟩
    · have g2' : ¬ (p.decls.length : Int) = 0 := by omega
      have hi0 : 0 ≤ i ∧ i ≤ 255 := by
        simp [Lit.wf] at hi; exact hi
      obtain ⟨j, hj⟩ : ∃ j : Nat, i.tmod (p.decls.length : Int) = (j : Int) ∧ j < p.decls.length := by
        refine ⟨(i.tmod (p.decls.length : Int)).toNat, ?_⟩
        have e1 := Int.tmod_nonneg (p.decls.length : Int) hi0.1
        have e2 := Int.tmod_lt_of_pos i (show (0 : Int) < p.decls.length by omega)
        omega
      have hd := List.getElem?_eq_getElem hj.2
      generalize p.decls[j] = d at hd
      have hdm := List.mem_of_getElem? hd
      have hds := hp.decls.2 d hdm
      have hw : IntKind.i64.wrap i = i := by
        simp [IntKind.wrap, IntKind.bits, IntKind.signed]; omega
      have hrf := ok_RefFormals p d.name
      have hfi := ok_Find p d.name
      (refine CallOK.of_body Tryz.func10 rfl (by decide) (by rw [Tryz.ntmps10]; simp) ?_; rw [Tryz.ntmps10])
      (refine AWp.seqR [0, 1, 2, 4, 5, 6, 7, 8, 9, 22, 56, 67, 69, 130] [] (by decide +kernel) fun K hK => ?_; simp -implicitDefEqProofs only [EV, Nat.reduceAdd, Nat.reduceEqDiff, Nat.reduceLeDiff, reduceCtorEq, ]; refine hK _ _ ?_; clear hK K)
      refine AWp.seqK fun K1 hK1 => ?_
      (refine AWp.seqR [0, 1, 2, 4, 5, 6, 7, 8, 9, 22, 56, 67, 69, 130] [] (by decide +kernel) fun K hK => ?_; simp -implicitDefEqProofs only [EV, Nat.reduceAdd, Nat.reduceEqDiff, reduceCtorEq, ]; refine ⟨_, .inl ⟨_, rfl, haw, rfl⟩, ?_⟩; (try simp -implicitDefEqProofs only [EV, Nat.reduceAdd, Nat.reduceEqDiff, reduceCtorEq, TF30, ]); refine ⟨_, .inl ⟨_, rfl, h1, rfl⟩, ?_⟩; (try simp -implicitDefEqProofs only [EV, Nat.reduceEqDiff, reduceCtorEq, TF22, TF30, g2']); refine hK _ _ ?_; clear hK K)
      refine AWp.skipIfK rfl hK1 ?_
      clear hK1 K1
      (refine AWp.seqDL [0, 1, 2, 4, 5, 6, 7, 8, 9, 22, 56, 67, 69, 130] [] 11 10 5 80 _ mixed (by decide +kernel) (by decide +kernel) ⟨by decide, ⟨_, rfl, rfl, rfl, rfl⟩, by decide, (by first | exact TF80.2.2.1 | simp only [TF80])⟩ fun K hK => ?_; simp -implicitDefEqProofs only [EV, Nat.reduceAdd, Nat.reduceEqDiff, reduceCtorEq, TF3, TF5, TF22, TF30, TF80, g2', hw, hj.1]; refine ⟨by omega, _, deR_get hd, rfl, ?_⟩; (try simp -implicitDefEqProofs only [EV, Nat.reduceAdd, Nat.reduceEqDiff, Nat.reduceBEq, reduceCtorEq, TF80, ]); refine hK _ _ ?_; clear hK K)
      clear hw
      (refine AWp.seqR [0, 1, 2, 4, 5, 6, 7, 8, 9, 22, 56, 67, 69, 130] [] (by decide +kernel) fun K hK => ?_; simp -implicitDefEqProofs only [EV, Nat.reduceEqDiff, reduceCtorEq, TF46, TF80]; refine hK _ _ ?_; clear hK K)
      (refine AWp.seqR [0, 1, 2, 4, 5, 6, 7, 8, 9, 22, 56, 67, 69, 130] [] (by decide +kernel) fun K hK => ?_; simp -implicitDefEqProofs only [EV, Nat.reduceAdd, Nat.reduceEqDiff, Nat.reduceBEq, Nat.reduceLeDiff, reduceCtorEq, TF9, TF25, TF80]; refine hK _ _ ?_; clear hK K)
      refine AWp.promoteBox 67 3 7 1 rfl rfl (by decide) ?_
      refine AWp.seqK fun K1 hK1 => ?_
      by_cases hkind : d.kind = 1 ∨ d.kind = 2
      · obtain ⟨k0, e0, hk0, hf0, hfo, hkk⟩ := declT_self hdm hkind
        by_cases hlen : e0.formals.length = d.formals.length
        · have hlen' : (e0.formals.length : Int) = d.formals.length := by omega
          rw [hfo] at hrf
          rw [hf0] at hfi
          have rest : ∀ sl bx, sle sl [(2, .box 2 0), (4, .d (.bool false)), (5, .box 5 0), (6, .d (.slice (foR d.formals))), (7, .box 7 0)] →
              ble bx [(2, .cells ((prC p).map .d)), (5, .cells ((deC d).map .d)), (7, .cells [.d (.str d.name), .acc 67, .d (.int .i64 0)]), (67, .rows 3 [])] → K1 sl bx := by
            intro sl bx b1 b2
            refine hK1 _ _ (AWp.weaken b1 b2 ?_)
            clear hK1 K1 b1 b2
            have hes := hp.decls.2 e0 (List.mem_of_getElem? hk0)
            (refine AWp.seqD [0, 1, 2, 4, 5, 6, 7, 8, 9, 22, 56, 67, 69, 130] [] 10 mixed (by decide +kernel) (by decide +kernel) fun K hK => ?_; simp -implicitDefEqProofs only [EV, Nat.reduceAdd, Nat.reduceEqDiff, TF9, TF22, TF30, TF80]; refine ⟨_, .inl ⟨_, rfl, hfi, rfl⟩, ?_⟩; (try simp -implicitDefEqProofs only [EV, Nat.reduceEqDiff, TF46, TF80]); refine ⟨by omega, _, deR_get hk0, rfl, ?_⟩; (try simp -implicitDefEqProofs only [EV, Nat.reduceEqDiff, reduceCtorEq, ]); refine hK _ _ ?_; clear hK K)
            refine AWp.seqK fun K1 hK1 => ?_
            (refine AWp.seqR [0, 1, 2, 4, 5, 6, 7, 8, 9, 22, 56, 67, 69, 130] [] (by decide +kernel) fun K hK => ?_; simp -implicitDefEqProofs only [EV, Nat.reduceEqDiff, reduceCtorEq, ]; refine hK _ _ ?_; clear hK K)
            refine AWp.block (AWp.forIdx d.formals (X := Unit) (fun j _ => [(2, .box 2 0), (4, .d (.bool false)), (6, .d (.slice (foR d.formals))), (7, .box 7 0), (8, .d (.slice (foR e0.formals))), (9, intV j)])
              (fun j _ => [(2, .cells ((prC p).map .d)), (7, .cells [.d (.str d.name), .acc 67, .d (.int .i64 0)]), (67, .rows 3 (tyR ((d.formals.take j).map varT)))])
              (fun j _ => selfI p d.formals e0.formals j) () (fun k f g hk => by omega) (by simp [sle, vle, sget]) (by simp [ble, bget, tyR_map, prC]) ?_ ?_)
            · intro _ hI
              rw [List.take_length]
              refine AWp.seqK fun K2 hK2 => ?_
              (refine AWp.seqR [0, 1, 2, 4, 5, 6, 7, 8, 9, 22, 56, 67, 69, 130] [] (by decide +kernel) fun K hK => ?_; simp -implicitDefEqProofs only [EV, Nat.reduceEqDiff, reduceCtorEq, TF46, Int.lt_irrefl]; refine hK _ _ ?_; clear hK K)
              refine AWp.stopK rfl ?_
              simp only [thenA, blockA, if_true]
              refine hK1 _ _ ?_
              refine AWp.publish 67 rfl ?_
              have hself := chk_self (p := p) (l := d.formals) (nm := d.name) hkk (by rw [hfo]; exact hlen) (fun k f g hf hg => hI k f g (List.getElem?_eq_some_iff.1 hf).1 hf (by rw [hfo] at hg; exact hg))
              have hck := ok_CCheck p hp d.formals hds.formals.1 hds.formals.2 (.mk d.name (d.formals.map varT) 0) (.mk _ _ _ hds.name (by rw [List.length_map]; exact hds.formals.1) (fun u hu => by
                obtain ⟨f, hf, rfl⟩ := List.mem_map.1 hu
                exact .mk _ _ _ (hds.formals.2 f hf).name (by simp) (by simp)))
              rw [hself] at hck
              simp only [errD] at hck
              (refine AWp.seqD [0, 1, 2, 4, 5, 6, 7, 8, 9, 22, 56, 67, 69, 130] [] 7 mixed (by decide +kernel) (by decide +kernel) fun K hK => ?_; simp -implicitDefEqProofs only [EV, Nat.reduceEqDiff, ]; refine ⟨_, .inl ⟨_, rfl, ok_New p hp, rfl⟩, ?_⟩; (try simp -implicitDefEqProofs only [EV, Nat.reduceEqDiff, ]); refine ⟨_, .inl ⟨_, rfl, hck, rfl⟩, ?_⟩; (try simp -implicitDefEqProofs only [EV, Nat.reduceEqDiff, reduceCtorEq, TF65]); refine hK _ _ ?_; clear hK K)
              exact AWp.ret ⟨_, by rw [Tryz.results10]; rfl, rfl⟩
            · intro j _ f hf hmem hdrop htake hlt hI
              rw [htake]
              have hjl := (List.getElem?_eq_some_iff.1 hf).1
              have hdl := hds.formals.1
              have hg := List.getElem?_eq_getElem (show j < e0.formals.length by omega)
              generalize e0.formals[j] = g at hg
              have hki := ok_Kind p f.name
              have hfv := ok_RefFind (d.formals.take j) (varT f) (by rw [List.length_take]; have := hds.formals.1; omega)
              rw [← foR_takeL] at hfv
              have hsa := ok_RSame g.bound f.bound (hes.formals.2 g (List.mem_of_getElem? hg)).bound
              have hif := ok_RIsInterface p d.formals hds.formals.1 f.bound
              have hI' : findV (d.formals.take j) (varT f) < 0 → g.name = f.name → sameT g.bound f.bound = true → isIface p d.formals f.bound = true → selfI p d.formals e0.formals (j + 1) := by
                intro a1 a2 a3 a4 k f' g' hk hf' hg'
                by_cases hkj : k < j
                · exact hI k f' g' hkj hf' hg'
                · obtain rfl : k = j := by omega
                  rw [hf] at hf'; rw [hg] at hg'
                  obtain rfl := Option.some.inj hf'
                  obtain rfl := Option.some.inj hg'
                  exact ⟨a1, a2, a3, a4⟩
              generalize findV (d.formals.take j) (varT f) = v at *
              generalize sameT g.bound f.bound = sb at *
              generalize isIface p d.formals f.bound = ib at *
              generalize kindOf p f.name = kf at *
              refine AWp.seqK fun K2 hK2 => ?_
              (refine AWp.seqR [0, 1, 2, 4, 5, 6, 7, 8, 9, 22, 56, 67, 69, 130] [] (by decide +kernel) fun K hK => ?_; simp -implicitDefEqProofs only [EV, Nat.reduceEqDiff, reduceCtorEq, TF46, hlt]; refine hK _ _ ?_; clear hK K)
              refine AWp.goOnK rfl hK2 ?_
              clear hK2 K2
              refine AWp.seqK fun K2 hK2 => ?_
              refine AWp.block ?_
              refine AWp.seqK fun K3 hK3 => ?_
              by_cases q1 : kf = 0
              · by_cases q2 : v < 0
                · have q2' : ¬ v ≥ 0 := by omega
                  by_cases q3 : g.name = f.name
                  · cases sb with
                    | true =>
                      cases ib with
                      | true =>
                        (refine AWp.seqD [0, 1, 2, 4, 5, 6, 7, 8, 9, 22, 56, 67, 69, 130] [] 59 mixed (by decide +kernel) (by decide +kernel) fun K hK => ?_; simp -implicitDefEqProofs only [EV, Nat.reduceAdd, Nat.reduceEqDiff, reduceCtorEq, TF9, TF30, TF46, TF84, ]; refine ⟨by omega, _, foR_get hf, rfl, ?_⟩; (try simp -implicitDefEqProofs only [EV, Nat.reduceEqDiff, reduceCtorEq, ]); refine ⟨_, .inl ⟨_, rfl, hki, rfl⟩, ?_⟩; (try simp -implicitDefEqProofs only [EV, Nat.reduceEqDiff, Int.reduceLE, Int.reduceToNat, reduceCtorEq, TF9, TF46, TF84, q1, ]); refine ⟨foR_row _, by omega, by omega, by omega, _, foR_get hf, rfl, ?_⟩; (try simp -implicitDefEqProofs only [EV, Nat.reduceAdd, Nat.reduceEqDiff, Nat.reduceLeDiff, reduceCtorEq, TF25, ]); refine ⟨_, .inl ⟨_, rfl, hfv, rfl⟩, ?_⟩; (try simp -implicitDefEqProofs only [EV, Nat.reduceEqDiff, reduceCtorEq, TF9, TF46, TF84, q2']); refine ⟨by omega, _, foR_get hg, rfl, ?_⟩; (try simp -implicitDefEqProofs only [EV, Nat.reduceEqDiff, reduceCtorEq, TF9, TF46, TF84, q3]); refine ⟨by omega, _, foR_get hf, rfl, ?_⟩; (try simp -implicitDefEqProofs only [EV, Nat.reduceAdd, Nat.reduceEqDiff, reduceCtorEq, TF25, TF46, TF84, ]); refine ⟨by omega, _, foR_get hg, rfl, ?_⟩; (try simp -implicitDefEqProofs only [EV, Nat.reduceAdd, Nat.reduceEqDiff, Nat.reduceLeDiff, reduceCtorEq, TF25, TF46, TF84, q3]); refine ⟨by omega, _, foR_get hf, rfl, ?_⟩; (try simp -implicitDefEqProofs only [EV, Nat.reduceAdd, Nat.reduceEqDiff, Nat.reduceLeDiff, reduceCtorEq, ]); refine ⟨_, .inl ⟨_, rfl, hsa, rfl⟩, ?_⟩; (try simp -implicitDefEqProofs only [EV, Nat.reduceAdd, Nat.reduceEqDiff, reduceCtorEq, TF25, TF30, TF46, TF84, ]); refine ⟨by omega, _, foR_get hf, rfl, ?_⟩; (try simp -implicitDefEqProofs only [EV, Nat.reduceAdd, Nat.reduceEqDiff, Nat.reduceLeDiff, reduceCtorEq, ]); refine ⟨_, .inl ⟨_, rfl, hif, rfl⟩, ?_⟩; (try simp -implicitDefEqProofs only [EV, Nat.reduceEqDiff, reduceCtorEq, ]); refine hK _ _ ?_; clear hK K)
                        refine AWp.skipIfK rfl hK3 ?_
                        clear hK3 K3
                        (refine AWp.lastD [0, 1, 2, 4, 5, 6, 7, 8, 9, 22, 56, 67, 69, 130] [] 9 mixed (by decide +kernel) (by decide +kernel) fun K hK => ?_; simp -implicitDefEqProofs only [EV, Nat.reduceEqDiff, reduceCtorEq, TF9, TF23, TF25, TF46, TF84]; refine ⟨by omega, _, foR_get hf, rfl, ?_⟩; (try simp -implicitDefEqProofs only [EV, Nat.reduceAdd, Nat.reduceEqDiff, Nat.reduceBEq, Nat.reduceLeDiff, Nat.reduceMul, reduceCtorEq, TF23, TF25, ]); refine ⟨by simp, by simp only [List.length_map, List.length_take]; unfold lim; have := hds.formals.1; unfold sm at this; omega, ?_⟩; (try simp -implicitDefEqProofs only [EV, forall_const, implies_true, Nat.reduceAdd, Nat.reduceEqDiff, Nat.reduceBEq, Nat.reduceLeDiff, Nat.reduceSub, Nat.reduceMul, Int.reduceEq, Int.reduceLT, Int.reduceLE, Int.reduceSub, Int.reduceAdd, Int.reduceToNat, reduceCtorEq, Int.reduceNeg, TF3, TF4, TF5, TF9, TF22, TF23, TF25, TF30, TF46, TF80, TF84]); refine hK _ _ ?_; clear hK K; try simp only [thenA, blockA])
                        refine hK2 _ _ ?_
                        clear hK2 K2
                        (refine AWp.lastR [0, 1, 2, 4, 5, 6, 7, 8, 9, 22, 56, 67, 69, 130] [] (by decide +kernel) fun K hK => ?_; simp -implicitDefEqProofs only [EV, Nat.reduceEqDiff, reduceCtorEq, ]; refine ⟨by first | (unfold InR; omega) | (simp only [InR, sm] at *; omega), ?_⟩; (try simp -implicitDefEqProofs only [EV, forall_const, implies_true, Nat.reduceAdd, Nat.reduceEqDiff, Nat.reduceBEq, Nat.reduceLeDiff, Nat.reduceSub, Nat.reduceMul, Int.reduceEq, Int.reduceLT, Int.reduceLE, Int.reduceSub, Int.reduceAdd, Int.reduceToNat, reduceCtorEq, Int.reduceNeg, TF3, TF4, TF5, TF9, TF22, TF23, TF25, TF30, TF46, TF80, TF84]); refine hK _ _ ?_; clear hK K; try simp only [thenA, ])
                        exact ⟨(), hI' q2 q3 rfl rfl, (by simp [sle, vle, sget]), by simp [ble, bget, tyR_map, prC, varT, tyC, Ty.name, Ty.args, Ty.pos]⟩
                      | false =>
                        (refine AWp.seqD [0, 1, 2, 4, 5, 6, 7, 8, 9, 22, 56, 67, 69, 130] [] 59 mixed (by decide +kernel) (by decide +kernel) fun K hK => ?_; simp -implicitDefEqProofs only [EV, Nat.reduceAdd, Nat.reduceEqDiff, reduceCtorEq, TF9, TF30, TF46, TF84, ]; refine ⟨by omega, _, foR_get hf, rfl, ?_⟩; (try simp -implicitDefEqProofs only [EV, Nat.reduceEqDiff, reduceCtorEq, ]); refine ⟨_, .inl ⟨_, rfl, hki, rfl⟩, ?_⟩; (try simp -implicitDefEqProofs only [EV, Nat.reduceEqDiff, Int.reduceLE, Int.reduceToNat, reduceCtorEq, TF9, TF46, TF84, q1, ]); refine ⟨foR_row _, by omega, by omega, by omega, _, foR_get hf, rfl, ?_⟩; (try simp -implicitDefEqProofs only [EV, Nat.reduceAdd, Nat.reduceEqDiff, Nat.reduceLeDiff, reduceCtorEq, TF25, ]); refine ⟨_, .inl ⟨_, rfl, hfv, rfl⟩, ?_⟩; (try simp -implicitDefEqProofs only [EV, Nat.reduceEqDiff, reduceCtorEq, TF9, TF46, TF84, q2']); refine ⟨by omega, _, foR_get hg, rfl, ?_⟩; (try simp -implicitDefEqProofs only [EV, Nat.reduceEqDiff, reduceCtorEq, TF9, TF46, TF84, q3]); refine ⟨by omega, _, foR_get hf, rfl, ?_⟩; (try simp -implicitDefEqProofs only [EV, Nat.reduceAdd, Nat.reduceEqDiff, reduceCtorEq, TF25, TF46, TF84, ]); refine ⟨by omega, _, foR_get hg, rfl, ?_⟩; (try simp -implicitDefEqProofs only [EV, Nat.reduceAdd, Nat.reduceEqDiff, Nat.reduceLeDiff, reduceCtorEq, TF25, TF46, TF84, q3]); refine ⟨by omega, _, foR_get hf, rfl, ?_⟩; (try simp -implicitDefEqProofs only [EV, Nat.reduceAdd, Nat.reduceEqDiff, Nat.reduceLeDiff, reduceCtorEq, ]); refine ⟨_, .inl ⟨_, rfl, hsa, rfl⟩, ?_⟩; (try simp -implicitDefEqProofs only [EV, Nat.reduceAdd, Nat.reduceEqDiff, reduceCtorEq, TF25, TF30, TF46, TF84, ]); refine ⟨by omega, _, foR_get hf, rfl, ?_⟩; (try simp -implicitDefEqProofs only [EV, Nat.reduceAdd, Nat.reduceEqDiff, Nat.reduceLeDiff, reduceCtorEq, ]); refine ⟨_, .inl ⟨_, rfl, hif, rfl⟩, ?_⟩; (try simp -implicitDefEqProofs only [EV, Nat.reduceEqDiff, reduceCtorEq, ]); refine hK _ _ ?_; clear hK K)
                        refine AWp.takeIfK rfl ?_
                        (refine AWp.seqR [0, 1, 2, 4, 5, 6, 7, 8, 9, 22, 56, 67, 69, 130] [] (by decide +kernel) fun K hK => ?_; simp -implicitDefEqProofs only [EV, Nat.reduceEqDiff, reduceCtorEq, ]; refine hK _ _ ?_; clear hK K)
                        exact AWp.ret ⟨_, by rw [Tryz.results10]; rfl, rfl⟩
                    | false =>
                      (refine AWp.seqD [0, 1, 2, 4, 5, 6, 7, 8, 9, 22, 56, 67, 69, 130] [] 59 mixed (by decide +kernel) (by decide +kernel) fun K hK => ?_; simp -implicitDefEqProofs only [EV, Nat.reduceAdd, Nat.reduceEqDiff, reduceCtorEq, TF9, TF30, TF46, TF84, ]; refine ⟨by omega, _, foR_get hf, rfl, ?_⟩; (try simp -implicitDefEqProofs only [EV, Nat.reduceEqDiff, reduceCtorEq, ]); refine ⟨_, .inl ⟨_, rfl, hki, rfl⟩, ?_⟩; (try simp -implicitDefEqProofs only [EV, Nat.reduceEqDiff, Int.reduceLE, Int.reduceToNat, reduceCtorEq, TF9, TF46, TF84, q1, ]); refine ⟨foR_row _, by omega, by omega, by omega, _, foR_get hf, rfl, ?_⟩; (try simp -implicitDefEqProofs only [EV, Nat.reduceAdd, Nat.reduceEqDiff, Nat.reduceLeDiff, reduceCtorEq, TF25, ]); refine ⟨_, .inl ⟨_, rfl, hfv, rfl⟩, ?_⟩; (try simp -implicitDefEqProofs only [EV, Nat.reduceEqDiff, reduceCtorEq, TF9, TF46, TF84, q2']); refine ⟨by omega, _, foR_get hg, rfl, ?_⟩; (try simp -implicitDefEqProofs only [EV, Nat.reduceEqDiff, reduceCtorEq, TF9, TF46, TF84, q3]); refine ⟨by omega, _, foR_get hf, rfl, ?_⟩; (try simp -implicitDefEqProofs only [EV, Nat.reduceAdd, Nat.reduceEqDiff, reduceCtorEq, TF25, TF46, TF84, ]); refine ⟨by omega, _, foR_get hg, rfl, ?_⟩; (try simp -implicitDefEqProofs only [EV, Nat.reduceAdd, Nat.reduceEqDiff, Nat.reduceLeDiff, reduceCtorEq, TF25, TF46, TF84, q3]); refine ⟨by omega, _, foR_get hf, rfl, ?_⟩; (try simp -implicitDefEqProofs only [EV, Nat.reduceAdd, Nat.reduceEqDiff, Nat.reduceLeDiff, reduceCtorEq, ]); refine ⟨_, .inl ⟨_, rfl, hsa, rfl⟩, ?_⟩; (try simp -implicitDefEqProofs only [EV, Nat.reduceEqDiff, reduceCtorEq, ]); refine hK _ _ ?_; clear hK K)
                      refine AWp.takeIfK rfl ?_
                      (refine AWp.seqR [0, 1, 2, 4, 5, 6, 7, 8, 9, 22, 56, 67, 69, 130] [] (by decide +kernel) fun K hK => ?_; simp -implicitDefEqProofs only [EV, Nat.reduceEqDiff, reduceCtorEq, ]; refine hK _ _ ?_; clear hK K)
                      exact AWp.ret ⟨_, by rw [Tryz.results10]; rfl, rfl⟩
                  · (refine AWp.seqD [0, 1, 2, 4, 5, 6, 7, 8, 9, 22, 56, 67, 69, 130] [] 59 mixed (by decide +kernel) (by decide +kernel) fun K hK => ?_; simp -implicitDefEqProofs only [EV, Nat.reduceAdd, Nat.reduceEqDiff, reduceCtorEq, TF9, TF30, TF46, TF84, ]; refine ⟨by omega, _, foR_get hf, rfl, ?_⟩; (try simp -implicitDefEqProofs only [EV, Nat.reduceEqDiff, reduceCtorEq, ]); refine ⟨_, .inl ⟨_, rfl, hki, rfl⟩, ?_⟩; (try simp -implicitDefEqProofs only [EV, Nat.reduceEqDiff, Int.reduceLE, Int.reduceToNat, reduceCtorEq, TF9, TF46, TF84, q1, ]); refine ⟨foR_row _, by omega, by omega, by omega, _, foR_get hf, rfl, ?_⟩; (try simp -implicitDefEqProofs only [EV, Nat.reduceAdd, Nat.reduceEqDiff, Nat.reduceLeDiff, reduceCtorEq, TF25, ]); refine ⟨_, .inl ⟨_, rfl, hfv, rfl⟩, ?_⟩; (try simp -implicitDefEqProofs only [EV, Nat.reduceEqDiff, reduceCtorEq, TF9, TF46, TF84, q2']); refine ⟨by omega, _, foR_get hg, rfl, ?_⟩; (try simp -implicitDefEqProofs only [EV, Nat.reduceEqDiff, reduceCtorEq, TF9, TF46, TF84, ]); refine ⟨by omega, _, foR_get hf, rfl, ?_⟩; (try simp -implicitDefEqProofs only [EV, Nat.reduceEqDiff, reduceCtorEq, q3]); refine hK _ _ ?_; clear hK K)
                    refine AWp.takeIfK rfl ?_
                    (refine AWp.seqR [0, 1, 2, 4, 5, 6, 7, 8, 9, 22, 56, 67, 69, 130] [] (by decide +kernel) fun K hK => ?_; simp -implicitDefEqProofs only [EV, Nat.reduceEqDiff, reduceCtorEq, ]; refine hK _ _ ?_; clear hK K)
                    exact AWp.ret ⟨_, by rw [Tryz.results10]; rfl, rfl⟩
                · have q2' : v ≥ 0 := by omega
                  (refine AWp.seqD [0, 1, 2, 4, 5, 6, 7, 8, 9, 22, 56, 67, 69, 130] [] 59 mixed (by decide +kernel) (by decide +kernel) fun K hK => ?_; simp -implicitDefEqProofs only [EV, Nat.reduceAdd, Nat.reduceEqDiff, reduceCtorEq, TF9, TF30, TF46, TF84, ]; refine ⟨by omega, _, foR_get hf, rfl, ?_⟩; (try simp -implicitDefEqProofs only [EV, Nat.reduceEqDiff, reduceCtorEq, ]); refine ⟨_, .inl ⟨_, rfl, hki, rfl⟩, ?_⟩; (try simp -implicitDefEqProofs only [EV, Nat.reduceEqDiff, Int.reduceLE, Int.reduceToNat, reduceCtorEq, TF9, TF46, TF84, q1]); refine ⟨foR_row _, by omega, by omega, by omega, _, foR_get hf, rfl, ?_⟩; (try simp -implicitDefEqProofs only [EV, Nat.reduceAdd, Nat.reduceEqDiff, Nat.reduceLeDiff, reduceCtorEq, TF25, ]); refine ⟨_, .inl ⟨_, rfl, hfv, rfl⟩, ?_⟩; (try simp -implicitDefEqProofs only [EV, Nat.reduceEqDiff, reduceCtorEq, q2']); refine hK _ _ ?_; clear hK K)
                  refine AWp.takeIfK rfl ?_
                  (refine AWp.seqR [0, 1, 2, 4, 5, 6, 7, 8, 9, 22, 56, 67, 69, 130] [] (by decide +kernel) fun K hK => ?_; simp -implicitDefEqProofs only [EV, Nat.reduceEqDiff, reduceCtorEq, ]; refine hK _ _ ?_; clear hK K)
                  exact AWp.ret ⟨_, by rw [Tryz.results10]; rfl, rfl⟩
              · (refine AWp.seqD [0, 1, 2, 4, 5, 6, 7, 8, 9, 22, 56, 67, 69, 130] [] 59 mixed (by decide +kernel) (by decide +kernel) fun K hK => ?_; simp -implicitDefEqProofs only [EV, Nat.reduceAdd, Nat.reduceEqDiff, reduceCtorEq, TF9, TF30, TF46, TF84]; refine ⟨by omega, _, foR_get hf, rfl, ?_⟩; (try simp -implicitDefEqProofs only [EV, Nat.reduceEqDiff, reduceCtorEq, ]); refine ⟨_, .inl ⟨_, rfl, hki, rfl⟩, ?_⟩; (try simp -implicitDefEqProofs only [EV, Nat.reduceEqDiff, reduceCtorEq, q1]); refine hK _ _ ?_; clear hK K)
                refine AWp.takeIfK rfl ?_
                (refine AWp.seqR [0, 1, 2, 4, 5, 6, 7, 8, 9, 22, 56, 67, 69, 130] [] (by decide +kernel) fun K hK => ?_; simp -implicitDefEqProofs only [EV, Nat.reduceEqDiff, reduceCtorEq, ]; refine hK _ _ ?_; clear hK K)
                exact AWp.ret ⟨_, by rw [Tryz.results10]; rfl, rfl⟩
          rcases hkind with hk1 | hk1
          · (refine AWp.seqR [0, 1, 2, 4, 5, 6, 7, 8, 9, 22, 56, 67, 69, 130] [] (by decide +kernel) fun K hK => ?_; simp -implicitDefEqProofs only [EV, Nat.reduceAdd, Nat.reduceEqDiff, Nat.reduceBEq, reduceCtorEq, TF3, TF9, TF30, TF80, hk1, ]; refine ⟨_, .inl ⟨_, rfl, hrf, rfl⟩, ?_⟩; (try simp -implicitDefEqProofs only [EV, Nat.reduceEqDiff, reduceCtorEq, TF46, hlen', TF46]); refine hK _ _ ?_; clear hK K)
            exact AWp.condF rfl (AWp.skip (rest _ _ (by simp [sle, vle, sget]) (by simp [ble, bget, prC, deC, hk1])))
          · (refine AWp.seqR [0, 1, 2, 4, 5, 6, 7, 8, 9, 22, 56, 67, 69, 130] [] (by decide +kernel) fun K hK => ?_; simp -implicitDefEqProofs only [EV, Nat.reduceAdd, Nat.reduceEqDiff, Nat.reduceBEq, Int.reduceEq, reduceCtorEq, TF3, TF9, TF30, TF80, hk1, ]; refine ⟨_, .inl ⟨_, rfl, hrf, rfl⟩, ?_⟩; (try simp -implicitDefEqProofs only [EV, Nat.reduceEqDiff, reduceCtorEq, TF46, hlen', TF46]); refine hK _ _ ?_; clear hK K)
            exact AWp.condF rfl (AWp.skip (rest _ _ (by simp [sle, vle, sget]) (by simp [ble, bget, prC, deC, hk1])))
        · have hlen' : ¬ (e0.formals.length : Int) = d.formals.length := by omega
          rw [hfo] at hrf
          rcases hkind with hk1 | hk1
          · (refine AWp.seqR [0, 1, 2, 4, 5, 6, 7, 8, 9, 22, 56, 67, 69, 130] [] (by decide +kernel) fun K hK => ?_; simp -implicitDefEqProofs only [EV, Nat.reduceAdd, Nat.reduceEqDiff, Nat.reduceBEq, reduceCtorEq, TF3, TF9, TF30, TF80, hk1, ]; refine ⟨_, .inl ⟨_, rfl, hrf, rfl⟩, ?_⟩; (try simp -implicitDefEqProofs only [EV, Nat.reduceEqDiff, reduceCtorEq, TF46, hlen', TF46]); refine hK _ _ ?_; clear hK K)
            refine AWp.takeIfK rfl ?_
            (refine AWp.seqR [0, 1, 2, 4, 5, 6, 7, 8, 9, 22, 56, 67, 69, 130] [] (by decide +kernel) fun K hK => ?_; simp -implicitDefEqProofs only [EV, Nat.reduceEqDiff, reduceCtorEq, ]; refine hK _ _ ?_; clear hK K)
            exact AWp.ret ⟨_, by rw [Tryz.results10]; rfl, rfl⟩
          · (refine AWp.seqR [0, 1, 2, 4, 5, 6, 7, 8, 9, 22, 56, 67, 69, 130] [] (by decide +kernel) fun K hK => ?_; simp -implicitDefEqProofs only [EV, Nat.reduceAdd, Nat.reduceEqDiff, Nat.reduceBEq, Int.reduceEq, reduceCtorEq, TF3, TF9, TF30, TF80, hk1, ]; refine ⟨_, .inl ⟨_, rfl, hrf, rfl⟩, ?_⟩; (try simp -implicitDefEqProofs only [EV, Nat.reduceEqDiff, reduceCtorEq, TF46, hlen', TF46]); refine hK _ _ ?_; clear hK K)
            refine AWp.takeIfK rfl ?_
            (refine AWp.seqR [0, 1, 2, 4, 5, 6, 7, 8, 9, 22, 56, 67, 69, 130] [] (by decide +kernel) fun K hK => ?_; simp -implicitDefEqProofs only [EV, Nat.reduceEqDiff, reduceCtorEq, ]; refine hK _ _ ?_; clear hK K)
            exact AWp.ret ⟨_, by rw [Tryz.results10]; rfl, rfl⟩
      · have hk1 : ¬ d.kind = 1 := fun h => hkind (.inl h)
        have hk2 : ¬ d.kind = 2 := fun h => hkind (.inr h)
        (refine AWp.seqR [0, 1, 2, 4, 5, 6, 7, 8, 9, 22, 56, 67, 69, 130] [] (by decide +kernel) fun K hK => ?_; simp -implicitDefEqProofs only [EV, Nat.reduceEqDiff, Nat.reduceBEq, reduceCtorEq, TF3, TF80, hk1, hk2]; refine hK _ _ ?_; clear hK K)
        refine AWp.takeIfK rfl ?_
        (refine AWp.seqR [0, 1, 2, 4, 5, 6, 7, 8, 9, 22, 56, 67, 69, 130] [] (by decide +kernel) fun K hK => ?_; simp -implicitDefEqProofs only [EV, Nat.reduceEqDiff, reduceCtorEq, ]; refine hK _ _ ?_; clear hK K)
        exact AWp.ret ⟨_, by rw [Tryz.results10]; rfl, rfl⟩
  · rw [decide_eq_false g1] at h1
    (refine CallOK.of_body Tryz.func10 rfl (by decide) (by rw [Tryz.ntmps10]; simp) ?_; rw [Tryz.ntmps10])
    (refine AWp.seqR [0, 1, 2, 4, 5, 6, 7, 8, 9, 22, 56, 67, 69, 130] [] (by decide +kernel) fun K hK => ?_; simp -implicitDefEqProofs only [EV, Nat.reduceAdd, Nat.reduceEqDiff, Nat.reduceLeDiff, reduceCtorEq, ]; refine hK _ _ ?_; clear hK K)
    refine AWp.seqK fun K1 hK1 => ?_
    (refine AWp.seqR [0, 1, 2, 4, 5, 6, 7, 8, 9, 22, 56, 67, 69, 130] [] (by decide +kernel) fun K hK => ?_; simp -implicitDefEqProofs only [EV, Nat.reduceAdd, Nat.reduceEqDiff, reduceCtorEq, ]; refine ⟨_, .inl ⟨_, rfl, haw, rfl⟩, ?_⟩; (try simp -implicitDefEqProofs only [EV, Nat.reduceAdd, Nat.reduceEqDiff, reduceCtorEq, TF30, ]); refine ⟨_, .inl ⟨_, rfl, h1, rfl⟩, ?_⟩; (try simp -implicitDefEqProofs only [EV, Nat.reduceEqDiff, reduceCtorEq, ]); refine hK _ _ ?_; clear hK K)
    refine AWp.takeIfK rfl ?_
    (refine AWp.seqR [0, 1, 2, 4, 5, 6, 7, 8, 9, 22, 56, 67, 69, 130] [] (by decide +kernel) fun K hK => ?_; simp -implicitDefEqProofs only [EV, Nat.reduceAdd, Nat.reduceEqDiff, reduceCtorEq, ]; refine ⟨_, .inl ⟨_, rfl, haw, rfl⟩, ?_⟩; (try simp -implicitDefEqProofs only [EV, ]); refine hK _ _ ?_; clear hK K)
    exact AWp.ret ⟨_, by rw [Tryz.results10]; rfl, rfl⟩
end Go.Abs
