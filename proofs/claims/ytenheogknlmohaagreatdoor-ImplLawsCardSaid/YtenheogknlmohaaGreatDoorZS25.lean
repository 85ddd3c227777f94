/- fault.New, impl.Check, All; castingsref13.Check -/
import Derived.Test.YtenheogknlmohaaGreatDoorZS24
namespace Go.Abs
set_option linter.unusedSimpArgs false
set_option linter.unusedVariables false
open Go Go.Proofs
set_option maxRecDepth 100000
set_option maxHeartbeats 1000000

/-- an error of a code at a place, or none -/
def errD (c : Int) : Option Int → D
  | none => .niliface
  | some n => .iface 177 (.agg [.int .i64 c, .int .i64 n])
theorem ok_faultNew (c n : Int) : CallOK Tryz.prog 83 [intV c, intV n] (.d (errD c (some n))) := by
  (refine CallOK.of_body Tryz.func83 rfl (by decide) (by rw [Tryz.ntmps83]; simp) ?_; rw [Tryz.ntmps83])
  (refine AWp.seqR [0, 1, 4] [] (by decide +kernel) fun K hK => ?_; simp -implicitDefEqProofs only [EV, Nat.reduceAdd, Nat.reduceEqDiff, reduceCtorEq, ]; refine hK _ _ ?_; clear hK K)
  (refine AWp.seqR [0, 1, 4] [] (by decide +kernel) fun K hK => ?_; simp -implicitDefEqProofs only [EV, Nat.reduceAdd, Nat.reduceEqDiff, Nat.reduceLeDiff, reduceCtorEq, TF177]; refine ⟨[.int .i64 c, .int .i64 n], rfl, ?_⟩; (try simp -implicitDefEqProofs only [EV, forall_const, implies_true, Nat.reduceAdd, Nat.reduceEqDiff, Nat.reduceBEq, Nat.reduceLeDiff, Nat.reduceSub, Nat.reduceMul, Int.reduceEq, Int.reduceLT, Int.reduceLE, Int.reduceSub, Int.reduceAdd, Int.reduceToNat, reduceCtorEq, Int.reduceNeg, TF3, TF4, TF9, TF177]); refine hK _ _ ?_; clear hK K)
  exact AWp.ret ⟨_, by rw [Tryz.results83]; rfl, rfl⟩
mutual
def chk (p : Prog) (env : List Formal) : Ty → Option Int
  | .mk n a pos => if (boundV env (.mk n a pos)).isSome = true then none else if kindOf p n = 0 ∨ (formalsT p n).length ≠ a.length then some pos else
      match chkL p env a with
      | some q => some q
      | none => if 0 ≤ boundsI p env (formalsT p n) a then some ((a[(boundsI p env (formalsT p n) a).toNat]?).getD default).pos else none
def chkL (p : Prog) (env : List Formal) : List Ty → Option Int
  | [] => none
  | t :: ts => match chk p env t with
    | some q => some q
    | none => chkL p env ts
end
theorem chk_eq (p : Prog) (env : List Formal) (x : Ty) : chk p env x = if (boundV env x).isSome = true then none else if kindOf p x.name = 0 ∨ (formalsT p x.name).length ≠ x.args.length then some x.pos else
      match chkL p env x.args with
      | some q => some q
      | none => if 0 ≤ boundsI p env (formalsT p x.name) x.args then some ((x.args[(boundsI p env (formalsT p x.name) x.args).toNat]?).getD default).pos else none := by
  cases x with | mk n a pos => rw [chk]; rfl
theorem ok_Check1 (x : Ty) : CallOK Tryz.prog 82 [tyV x] (.d (errD 4 (some x.pos))) := by
  (refine CallOK.of_body Tryz.func82 rfl (by decide) (by rw [Tryz.ntmps82]; simp) ?_; rw [Tryz.ntmps82])
  (refine AWp.seqR [0, 1, 2] [] (by decide +kernel) fun K hK => ?_; simp -implicitDefEqProofs only [EV, Nat.reduceEqDiff, Nat.reduceLeDiff, reduceCtorEq, ]; refine hK _ _ ?_; clear hK K)
  (refine AWp.seqR [0, 1, 2] [] (by decide +kernel) fun K hK => ?_; simp -implicitDefEqProofs only [EV, Nat.reduceAdd, Nat.reduceEqDiff, reduceCtorEq, TF3, TF25]; refine ⟨_, .inl ⟨_, rfl, ok_faultNew 4 x.pos, rfl⟩, ?_⟩; (try simp -implicitDefEqProofs only [EV, forall_const, implies_true, Nat.reduceAdd, Nat.reduceEqDiff, Nat.reduceBEq, Nat.reduceLeDiff, Nat.reduceSub, Nat.reduceMul, Int.reduceEq, Int.reduceLT, Int.reduceLE, Int.reduceSub, Int.reduceAdd, Int.reduceToNat, reduceCtorEq, Int.reduceNeg, TF3, TF4, TF9, TF25]); refine hK _ _ ?_; clear hK K)
  exact AWp.ret ⟨_, by rw [Tryz.results82]; rfl, rfl⟩
theorem ok_CAll (p : Prog) (env : List Formal) (l : List Ty) (hl : l.length ≤ sm) (hC : ∀ t, t ∈ l → CallOK Tryz.prog 37 [.dptr (tabC p) 0, .d (.slice (foR env)), tyV t] (.d (errD 4 (chk p env t)))) :
    CallOK Tryz.prog 38 [.dptr (tabC p) 0, .d (.slice (foR env)), tysV l] (.d (errD 4 (chkL p env l))) := by
  (refine CallOK.of_body Tryz.func38 rfl (by decide) (by rw [Tryz.ntmps38]; simp) ?_; rw [Tryz.ntmps38])
  (refine AWp.seqR [0, 1, 2, 6, 8, 9, 10, 11, 12, 13, 21] [] (by decide +kernel) fun K hK => ?_; simp -implicitDefEqProofs only [EV, Nat.reduceAdd, Nat.reduceEqDiff, reduceCtorEq, ]; refine hK _ _ ?_; clear hK K)
  refine AWp.seqK fun K1 hK1 => ?_
  (refine AWp.seqR [0, 1, 2, 6, 8, 9, 10, 11, 12, 13, 21] [] (by decide +kernel) fun K hK => ?_; simp -implicitDefEqProofs only [EV, Nat.reduceEqDiff, reduceCtorEq, TF23]; refine hK _ _ ?_; clear hK K)
  refine AWp.block (AWp.forIdx l (X := Unit) (fun j _ => [(0, .dptr (tabC p) 0), (1, .d (.slice (foR env))), (10, tysV l), (11, intV l.length), (12, intV j)]) (fun _ _ => [])
    (fun j _ => chkL p env (l.drop j) = chkL p env l) () (by simp) (by simp [sle, vle, sget, tabC, prC]) (by simp [ble, ]) ?_ ?_)
  · intro _ hI
    rw [List.drop_length, chkL] at hI
    (refine AWp.seqR [0, 1, 2, 6, 8, 9, 10, 11, 12, 13, 21] [] (by decide +kernel) fun K hK => ?_; simp -implicitDefEqProofs only [EV, Nat.reduceEqDiff, reduceCtorEq, Int.lt_irrefl]; refine hK _ _ ?_; clear hK K)
    refine AWp.stop rfl ?_
    simp only [thenA, blockA, if_true]
    refine hK1 _ _ ?_
    (refine AWp.seqR [0, 1, 2, 6, 8, 9, 10, 11, 12, 13, 21] [] (by decide +kernel) fun K hK => ?_; simp -implicitDefEqProofs only [EV, Nat.reduceEqDiff, reduceCtorEq, ]; refine hK _ _ ?_; clear hK K)
    rw [← hI, errD]
    exact AWp.ret ⟨_, by rw [Tryz.results38]; rfl, rfl⟩
  · intro j _ d hd hmem hdrop htake hlt hI
    have hc := hC d hmem
    rw [hdrop, chkL] at hI
    (refine AWp.seqR [0, 1, 2, 6, 8, 9, 10, 11, 12, 13, 21] [] (by decide +kernel) fun K hK => ?_; simp -implicitDefEqProofs only [EV, Nat.reduceEqDiff, reduceCtorEq, hlt]; refine hK _ _ ?_; clear hK K)
    refine AWp.goOn rfl ?_
    refine AWp.seqK fun K2 hK2 => ?_
    refine AWp.block ?_
    (refine AWp.seqR [0, 1, 2, 6, 8, 9, 10, 11, 12, 13, 21] [] (by decide +kernel) fun K hK => ?_; simp -implicitDefEqProofs only [EV, Nat.reduceEqDiff, reduceCtorEq, TF23, TF25]; refine ⟨by omega, _, tyR_get hd, rfl, ?_⟩; (try simp -implicitDefEqProofs only [EV, Nat.reduceAdd, Nat.reduceEqDiff, Nat.reduceLeDiff, reduceCtorEq, TF25]); refine hK _ _ ?_; clear hK K)
    cases ho : chk p env d with
    | none =>
      rw [ho] at hc hI
      simp only [errD] at hc hI
      (refine AWp.seqR [0, 1, 2, 6, 8, 9, 10, 11, 12, 13, 21] [] (by decide +kernel) fun K hK => ?_; simp -implicitDefEqProofs only [EV, Nat.reduceAdd, Nat.reduceEqDiff, reduceCtorEq, TF25]; refine ⟨_, .inl ⟨_, rfl, hc, rfl⟩, ?_⟩; (try simp -implicitDefEqProofs only [EV, forall_const, implies_true, Nat.reduceAdd, Nat.reduceEqDiff, Nat.reduceBEq, Nat.reduceLeDiff, Nat.reduceSub, Nat.reduceMul, Int.reduceEq, Int.reduceLT, Int.reduceLE, Int.reduceSub, Int.reduceAdd, Int.reduceToNat, reduceCtorEq, Int.reduceNeg, TF3, TF4, TF9, TF23, TF25]); refine hK _ _ ?_; clear hK K)
      (refine AWp.seqR [0, 1, 2, 6, 8, 9, 10, 11, 12, 13, 21] [] (by decide +kernel) fun K hK => ?_; simp -implicitDefEqProofs only [EV, Nat.reduceEqDiff, reduceCtorEq, TF65]; refine hK _ _ ?_; clear hK K)
      refine AWp.condF rfl (AWp.skip (hK2 _ _ ?_))
      clear hK2 K2
      (refine AWp.lastR [0, 1, 2, 6, 8, 9, 10, 11, 12, 13, 21] [] (by decide +kernel) fun K hK => ?_; simp -implicitDefEqProofs only [EV, Nat.reduceEqDiff, reduceCtorEq, ]; refine ⟨by first | (unfold InR; omega) | (simp only [InR, sm] at *; omega), ?_⟩; (try simp -implicitDefEqProofs only [EV, forall_const, implies_true, Nat.reduceAdd, Nat.reduceEqDiff, Nat.reduceBEq, Nat.reduceLeDiff, Nat.reduceSub, Nat.reduceMul, Int.reduceEq, Int.reduceLT, Int.reduceLE, Int.reduceSub, Int.reduceAdd, Int.reduceToNat, reduceCtorEq, Int.reduceNeg, TF3, TF4, TF9, TF23, TF25]); refine hK _ _ ?_; clear hK K; try simp only [thenA, ])
      exact ⟨(), hI, (by simp [sle, vle, sget, tabC, prC]), (by simp [ble, ])⟩
    | some q =>
      rw [ho] at hc hI
      simp only [errD] at hc hI
      (refine AWp.seqR [0, 1, 2, 6, 8, 9, 10, 11, 12, 13, 21] [] (by decide +kernel) fun K hK => ?_; simp -implicitDefEqProofs only [EV, Nat.reduceAdd, Nat.reduceEqDiff, reduceCtorEq, TF25]; refine ⟨_, .inl ⟨_, rfl, hc, rfl⟩, ?_⟩; (try simp -implicitDefEqProofs only [EV, forall_const, implies_true, Nat.reduceAdd, Nat.reduceEqDiff, Nat.reduceBEq, Nat.reduceLeDiff, Nat.reduceSub, Nat.reduceMul, Int.reduceEq, Int.reduceLT, Int.reduceLE, Int.reduceSub, Int.reduceAdd, Int.reduceToNat, reduceCtorEq, Int.reduceNeg, TF3, TF4, TF9, TF23, TF25]); refine hK _ _ ?_; clear hK K)
      (refine AWp.seqR [0, 1, 2, 6, 8, 9, 10, 11, 12, 13, 21] [] (by decide +kernel) fun K hK => ?_; simp -implicitDefEqProofs only [EV, Nat.reduceEqDiff, reduceCtorEq, TF65]; refine hK _ _ ?_; clear hK K)
      refine AWp.condT rfl ?_
      (refine AWp.seqR [0, 1, 2, 6, 8, 9, 10, 11, 12, 13, 21] [] (by decide +kernel) fun K hK => ?_; simp -implicitDefEqProofs only [EV, Nat.reduceEqDiff, reduceCtorEq, ]; refine hK _ _ ?_; clear hK K)
      rw [← hI, errD]
      exact AWp.ret ⟨_, by rw [Tryz.results38]; rfl, rfl⟩
theorem formalsT_Sm {p : Prog} (h : p.Sm) (nm : Str) : (formalsT p nm).length ≤ sm ∧ ∀ f, f ∈ formalsT p nm → f.Sm := by
  unfold formalsT
  cases ho : declT p nm with
  | none => simp
  | some d => exact (h.decls.2 d (declT_mem ho)).formals
theorem bounds_get {p : Prog} {env fs : List Formal} {a : List Ty} (h : 0 ≤ boundsI p env fs a) (hal : a.length = fs.length) : ∃ u, a[(boundsI p env fs a).toNat]? = some u := by
  unfold boundsI at *
  rcases idxF_cases (boundQ p env fs a) (fs.zip a) with ⟨h1, _⟩ | ⟨j, z, h1, h2, _⟩
  · omega
  · rw [h1]
    have := (List.getElem?_eq_some_iff.1 h2).1
    rw [List.length_zip] at this
    exact ⟨_, List.getElem?_eq_getElem (by omega)⟩
theorem ok_CCheck (p : Prog) (h : p.Sm) (env : List Formal) (hel : env.length ≤ sm) (he : ∀ f, f ∈ env → f.Sm) : ∀ x : Ty, x.Sm → CallOK Tryz.prog 37 [.dptr (tabC p) 0, .d (.slice (foR env)), tyV x] (.d (errD 4 (chk p env x))) := by
  intro x
  induction x using Ty.induct with
  | h x ih =>
  intro hx
  have hb := ok_Bound env x hel he
  have hfo := ok_TFormals p h x.name
  have hki := ok_TKind p h x.name
  have hall := ok_CAll p env x.args hx.len (fun t ht => ih t ht (hx.arg t ht))
  obtain ⟨hf1, hf2⟩ := formalsT_Sm h x.name
  rw [chk_eq]
  (refine CallOK.of_body Tryz.func37 rfl (by decide) (by rw [Tryz.ntmps37]; simp) ?_; rw [Tryz.ntmps37])
  (refine AWp.seqR [0, 1, 2, 5, 6, 8, 9, 10, 11, 12, 19, 36, 46, 55] [] (by decide +kernel) fun K hK => ?_; simp -implicitDefEqProofs only [EV, Nat.reduceAdd, Nat.reduceEqDiff, Nat.reduceLeDiff, reduceCtorEq, ]; refine hK _ _ ?_; clear hK K)
  cases ho : boundV env x with
  | some y =>
    rw [ho] at hb
    simp only [bndV] at hb
    simp only [Option.isSome_some, if_true, errD]
    refine AWp.seqK fun K1 hK1 => ?_
    (refine AWp.seqR [0, 1, 2, 5, 6, 8, 9, 10, 11, 12, 19, 36, 46, 55] [] (by decide +kernel) fun K hK => ?_; simp -implicitDefEqProofs only [EV, Nat.reduceAdd, Nat.reduceEqDiff, reduceCtorEq, TF25]; refine ⟨_, .inl ⟨_, rfl, hb, rfl⟩, ?_⟩; (try simp -implicitDefEqProofs only [EV, Nat.reduceAdd, Nat.reduceEqDiff, Nat.reduceBEq, Nat.reduceLeDiff, reduceCtorEq, TF25]); refine hK _ _ ?_; clear hK K)
    (refine AWp.seqR [0, 1, 2, 5, 6, 8, 9, 10, 11, 12, 19, 36, 46, 55] [] (by decide +kernel) fun K hK => ?_; simp -implicitDefEqProofs only [EV, Nat.reduceEqDiff, reduceCtorEq, ]; refine hK _ _ ?_; clear hK K)
    refine AWp.takeIfK rfl ?_
    (refine AWp.seqR [0, 1, 2, 5, 6, 8, 9, 10, 11, 12, 19, 36, 46, 55] [] (by decide +kernel) fun K hK => ?_; simp -implicitDefEqProofs only [EV, Nat.reduceEqDiff, reduceCtorEq, ]; refine hK _ _ ?_; clear hK K)
    exact AWp.ret ⟨_, by rw [Tryz.results37]; rfl, rfl⟩
  | none =>
    rw [ho] at hb
    simp only [bndV] at hb
    simp only [Option.isSome_none, if_neg (show ¬ (false = true) by decide)]
    refine AWp.seqK fun K1 hK1 => ?_
    (refine AWp.seqR [0, 1, 2, 5, 6, 8, 9, 10, 11, 12, 19, 36, 46, 55] [] (by decide +kernel) fun K hK => ?_; simp -implicitDefEqProofs only [EV, Nat.reduceAdd, Nat.reduceEqDiff, reduceCtorEq, TF25]; refine ⟨_, .inl ⟨_, rfl, hb, rfl⟩, ?_⟩; (try simp -implicitDefEqProofs only [EV, Nat.reduceAdd, Nat.reduceEqDiff, Nat.reduceBEq, Nat.reduceLeDiff, reduceCtorEq, TF25]); refine hK _ _ ?_; clear hK K)
    (refine AWp.seqR [0, 1, 2, 5, 6, 8, 9, 10, 11, 12, 19, 36, 46, 55] [] (by decide +kernel) fun K hK => ?_; simp -implicitDefEqProofs only [EV, Nat.reduceEqDiff, reduceCtorEq, ]; refine hK _ _ ?_; clear hK K)
    refine AWp.skipIfK rfl hK1 ?_
    clear hK1 K1
    (refine AWp.seqR [0, 1, 2, 5, 6, 8, 9, 10, 11, 12, 19, 36, 46, 55] [] (by decide +kernel) fun K hK => ?_; simp -implicitDefEqProofs only [EV, Nat.reduceEqDiff, reduceCtorEq, ]; refine hK _ _ ?_; clear hK K)
    (refine AWp.seqR [0, 1, 2, 5, 6, 8, 9, 10, 11, 12, 19, 36, 46, 55] [] (by decide +kernel) fun K hK => ?_; simp -implicitDefEqProofs only [EV, Nat.reduceAdd, Nat.reduceEqDiff, reduceCtorEq, TF9, TF25]; refine ⟨_, .inl ⟨_, rfl, hfo, rfl⟩, ?_⟩; (try simp -implicitDefEqProofs only [EV, forall_const, implies_true, Nat.reduceAdd, Nat.reduceEqDiff, Nat.reduceBEq, Nat.reduceLeDiff, Nat.reduceSub, Nat.reduceMul, Int.reduceEq, Int.reduceLT, Int.reduceLE, Int.reduceSub, Int.reduceAdd, Int.reduceToNat, reduceCtorEq, Int.reduceNeg, TF3, TF4, TF9, TF23, TF25]); refine hK _ _ ?_; clear hK K)
    have hbo := ok_Bounds p h env hel he (formalsT p x.name) hf1 hf2 x.args
    have hbg := @bounds_get p env (formalsT p x.name) x.args
    generalize formalsT p x.name = fs at *
    generalize kindOf p x.name = k at *
    by_cases hk : k = 0
    · rw [if_pos (.inl hk), errD]
      refine AWp.seqK fun K1 hK1 => ?_
      (refine AWp.seqR [0, 1, 2, 5, 6, 8, 9, 10, 11, 12, 19, 36, 46, 55] [] (by decide +kernel) fun K hK => ?_; simp -implicitDefEqProofs only [EV, Nat.reduceAdd, Nat.reduceEqDiff, reduceCtorEq, TF9, TF25]; refine ⟨_, .inl ⟨_, rfl, hki, rfl⟩, ?_⟩; (try simp -implicitDefEqProofs only [EV, Nat.reduceEqDiff, reduceCtorEq, hk]); refine hK _ _ ?_; clear hK K)
      refine AWp.takeIfK rfl ?_
      (refine AWp.seqR [0, 1, 2, 5, 6, 8, 9, 10, 11, 12, 19, 36, 46, 55] [] (by decide +kernel) fun K hK => ?_; simp -implicitDefEqProofs only [EV, Nat.reduceAdd, Nat.reduceEqDiff, reduceCtorEq, TF25]; refine ⟨_, .inl ⟨_, rfl, ok_Check1 x, rfl⟩, ?_⟩; (try simp -implicitDefEqProofs only [EV, forall_const, implies_true, Nat.reduceAdd, Nat.reduceEqDiff, Nat.reduceBEq, Nat.reduceLeDiff, Nat.reduceSub, Nat.reduceMul, Int.reduceEq, Int.reduceLT, Int.reduceLE, Int.reduceSub, Int.reduceAdd, Int.reduceToNat, reduceCtorEq, Int.reduceNeg, TF3, TF4, TF9, TF23, TF25]); refine hK _ _ ?_; clear hK K)
      exact AWp.ret ⟨_, by rw [Tryz.results37]; rfl, rfl⟩
    · by_cases hlen : fs.length = x.args.length
      · have hlen' : (fs.length : Int) = x.args.length := by omega
        have hbo := hbo hlen.symm hx.arg
        have hbg := fun hh => hbg hh hlen.symm
        rw [if_neg (by rintro (h1 | h1) <;> contradiction)]
        generalize boundsI p env fs x.args = b at *
        generalize chkL p env x.args = oc at *
        cases oc with
        | some q =>
          simp only [errD] at hall ⊢
          refine AWp.seqK fun K1 hK1 => ?_
          (refine AWp.seqR [0, 1, 2, 5, 6, 8, 9, 10, 11, 12, 19, 36, 46, 55] [] (by decide +kernel) fun K hK => ?_; simp -implicitDefEqProofs only [EV, Nat.reduceAdd, Nat.reduceEqDiff, reduceCtorEq, TF9, TF25, ]; refine ⟨_, .inl ⟨_, rfl, hki, rfl⟩, ?_⟩; (try simp -implicitDefEqProofs only [EV, Nat.reduceEqDiff, reduceCtorEq, TF23, TF25, hk, hlen', TF46]); refine hK _ _ ?_; clear hK K)
          refine AWp.skipIfK rfl hK1 ?_
          clear hK1 K1
          refine AWp.seqK fun K1 hK1 => ?_
          (refine AWp.seqR [0, 1, 2, 5, 6, 8, 9, 10, 11, 12, 19, 36, 46, 55] [] (by decide +kernel) fun K hK => ?_; simp -implicitDefEqProofs only [EV, Nat.reduceAdd, Nat.reduceEqDiff, reduceCtorEq, TF23, TF25]; refine ⟨_, .inl ⟨_, rfl, hall, rfl⟩, ?_⟩; (try simp -implicitDefEqProofs only [EV, forall_const, implies_true, Nat.reduceAdd, Nat.reduceEqDiff, Nat.reduceBEq, Nat.reduceLeDiff, Nat.reduceSub, Nat.reduceMul, Int.reduceEq, Int.reduceLT, Int.reduceLE, Int.reduceSub, Int.reduceAdd, Int.reduceToNat, reduceCtorEq, Int.reduceNeg, TF3, TF4, TF9, TF23, TF25]); refine hK _ _ ?_; clear hK K)
          (refine AWp.seqR [0, 1, 2, 5, 6, 8, 9, 10, 11, 12, 19, 36, 46, 55] [] (by decide +kernel) fun K hK => ?_; simp -implicitDefEqProofs only [EV, Nat.reduceEqDiff, reduceCtorEq, TF65]; refine hK _ _ ?_; clear hK K)
          refine AWp.takeIfK rfl ?_
          (refine AWp.seqR [0, 1, 2, 5, 6, 8, 9, 10, 11, 12, 19, 36, 46, 55] [] (by decide +kernel) fun K hK => ?_; simp -implicitDefEqProofs only [EV, Nat.reduceEqDiff, reduceCtorEq, ]; refine hK _ _ ?_; clear hK K)
          exact AWp.ret ⟨_, by rw [Tryz.results37]; rfl, rfl⟩
        | none =>
          simp only [errD] at hall
          simp only
          by_cases hb0 : 0 ≤ b
          · obtain ⟨u, hu⟩ := hbg hb0
            have hge : b ≥ 0 := hb0
            rw [if_pos hb0, hu, Option.getD_some]
            refine AWp.seqK fun K1 hK1 => ?_
            (refine AWp.seqR [0, 1, 2, 5, 6, 8, 9, 10, 11, 12, 19, 36, 46, 55] [] (by decide +kernel) fun K hK => ?_; simp -implicitDefEqProofs only [EV, Nat.reduceAdd, Nat.reduceEqDiff, reduceCtorEq, TF9, TF25, ]; refine ⟨_, .inl ⟨_, rfl, hki, rfl⟩, ?_⟩; (try simp -implicitDefEqProofs only [EV, Nat.reduceEqDiff, reduceCtorEq, TF23, TF25, hk, hlen', TF46]); refine hK _ _ ?_; clear hK K)
            refine AWp.skipIfK rfl hK1 ?_
            clear hK1 K1
            refine AWp.seqK fun K1 hK1 => ?_
            (refine AWp.seqR [0, 1, 2, 5, 6, 8, 9, 10, 11, 12, 19, 36, 46, 55] [] (by decide +kernel) fun K hK => ?_; simp -implicitDefEqProofs only [EV, Nat.reduceAdd, Nat.reduceEqDiff, reduceCtorEq, TF23, TF25]; refine ⟨_, .inl ⟨_, rfl, hall, rfl⟩, ?_⟩; (try simp -implicitDefEqProofs only [EV, forall_const, implies_true, Nat.reduceAdd, Nat.reduceEqDiff, Nat.reduceBEq, Nat.reduceLeDiff, Nat.reduceSub, Nat.reduceMul, Int.reduceEq, Int.reduceLT, Int.reduceLE, Int.reduceSub, Int.reduceAdd, Int.reduceToNat, reduceCtorEq, Int.reduceNeg, TF3, TF4, TF9, TF23, TF25]); refine hK _ _ ?_; clear hK K)
            (refine AWp.seqR [0, 1, 2, 5, 6, 8, 9, 10, 11, 12, 19, 36, 46, 55] [] (by decide +kernel) fun K hK => ?_; simp -implicitDefEqProofs only [EV, Nat.reduceEqDiff, reduceCtorEq, TF65]; refine hK _ _ ?_; clear hK K)
            refine AWp.skipIfK rfl hK1 ?_
            clear hK1 K1
            refine AWp.seqK fun K1 hK1 => ?_
            (refine AWp.seqR [0, 1, 2, 5, 6, 8, 9, 10, 11, 12, 19, 36, 46, 55] [] (by decide +kernel) fun K hK => ?_; simp -implicitDefEqProofs only [EV, Nat.reduceAdd, Nat.reduceEqDiff, reduceCtorEq, TF23, TF25]; refine ⟨_, .inl ⟨_, rfl, hbo, rfl⟩, ?_⟩; (try simp -implicitDefEqProofs only [EV, ]); refine hK _ _ ?_; clear hK K)
            (refine AWp.seqR [0, 1, 2, 5, 6, 8, 9, 10, 11, 12, 19, 36, 46, 55] [] (by decide +kernel) fun K hK => ?_; simp -implicitDefEqProofs only [EV, Nat.reduceEqDiff, reduceCtorEq, hge]; refine hK _ _ ?_; clear hK K)
            refine AWp.takeIfK rfl ?_
            (refine AWp.seqR [0, 1, 2, 5, 6, 8, 9, 10, 11, 12, 19, 36, 46, 55] [] (by decide +kernel) fun K hK => ?_; simp -implicitDefEqProofs only [EV, Nat.reduceEqDiff, reduceCtorEq, TF23, TF25]; refine ⟨by omega, _, tyR_get hu, rfl, ?_⟩; (try simp -implicitDefEqProofs only [EV, Nat.reduceAdd, Nat.reduceEqDiff, reduceCtorEq, ]); refine ⟨_, .inl ⟨_, rfl, ok_Check1 u, rfl⟩, ?_⟩; (try simp -implicitDefEqProofs only [EV, forall_const, implies_true, Nat.reduceAdd, Nat.reduceEqDiff, Nat.reduceBEq, Nat.reduceLeDiff, Nat.reduceSub, Nat.reduceMul, Int.reduceEq, Int.reduceLT, Int.reduceLE, Int.reduceSub, Int.reduceAdd, Int.reduceToNat, reduceCtorEq, Int.reduceNeg, TF3, TF4, TF9, TF23, TF25]); refine hK _ _ ?_; clear hK K)
            exact AWp.ret ⟨_, by rw [Tryz.results37]; rfl, rfl⟩
          · have hge : ¬ b ≥ 0 := hb0
            rw [if_neg hb0, errD]
            refine AWp.seqK fun K1 hK1 => ?_
            (refine AWp.seqR [0, 1, 2, 5, 6, 8, 9, 10, 11, 12, 19, 36, 46, 55] [] (by decide +kernel) fun K hK => ?_; simp -implicitDefEqProofs only [EV, Nat.reduceAdd, Nat.reduceEqDiff, reduceCtorEq, TF9, TF25, ]; refine ⟨_, .inl ⟨_, rfl, hki, rfl⟩, ?_⟩; (try simp -implicitDefEqProofs only [EV, Nat.reduceEqDiff, reduceCtorEq, TF23, TF25, hk, hlen', TF46]); refine hK _ _ ?_; clear hK K)
            refine AWp.skipIfK rfl hK1 ?_
            clear hK1 K1
            refine AWp.seqK fun K1 hK1 => ?_
            (refine AWp.seqR [0, 1, 2, 5, 6, 8, 9, 10, 11, 12, 19, 36, 46, 55] [] (by decide +kernel) fun K hK => ?_; simp -implicitDefEqProofs only [EV, Nat.reduceAdd, Nat.reduceEqDiff, reduceCtorEq, TF23, TF25]; refine ⟨_, .inl ⟨_, rfl, hall, rfl⟩, ?_⟩; (try simp -implicitDefEqProofs only [EV, forall_const, implies_true, Nat.reduceAdd, Nat.reduceEqDiff, Nat.reduceBEq, Nat.reduceLeDiff, Nat.reduceSub, Nat.reduceMul, Int.reduceEq, Int.reduceLT, Int.reduceLE, Int.reduceSub, Int.reduceAdd, Int.reduceToNat, reduceCtorEq, Int.reduceNeg, TF3, TF4, TF9, TF23, TF25]); refine hK _ _ ?_; clear hK K)
            (refine AWp.seqR [0, 1, 2, 5, 6, 8, 9, 10, 11, 12, 19, 36, 46, 55] [] (by decide +kernel) fun K hK => ?_; simp -implicitDefEqProofs only [EV, Nat.reduceEqDiff, reduceCtorEq, TF65]; refine hK _ _ ?_; clear hK K)
            refine AWp.skipIfK rfl hK1 ?_
            clear hK1 K1
            refine AWp.seqK fun K1 hK1 => ?_
            (refine AWp.seqR [0, 1, 2, 5, 6, 8, 9, 10, 11, 12, 19, 36, 46, 55] [] (by decide +kernel) fun K hK => ?_; simp -implicitDefEqProofs only [EV, Nat.reduceAdd, Nat.reduceEqDiff, reduceCtorEq, TF23, TF25]; refine ⟨_, .inl ⟨_, rfl, hbo, rfl⟩, ?_⟩; (try simp -implicitDefEqProofs only [EV, ]); refine hK _ _ ?_; clear hK K)
            (refine AWp.seqR [0, 1, 2, 5, 6, 8, 9, 10, 11, 12, 19, 36, 46, 55] [] (by decide +kernel) fun K hK => ?_; simp -implicitDefEqProofs only [EV, Nat.reduceEqDiff, reduceCtorEq, hge]; refine hK _ _ ?_; clear hK K)
            refine AWp.skipIfK rfl hK1 ?_
            (refine AWp.seqR [0, 1, 2, 5, 6, 8, 9, 10, 11, 12, 19, 36, 46, 55] [] (by decide +kernel) fun K hK => ?_; simp -implicitDefEqProofs only [EV, Nat.reduceEqDiff, reduceCtorEq, ]; refine hK _ _ ?_; clear hK K)
            exact AWp.ret ⟨_, by rw [Tryz.results37]; rfl, rfl⟩
      · have hlen' : ¬ (fs.length : Int) = x.args.length := by omega
        rw [if_pos (.inr hlen), errD]
        refine AWp.seqK fun K1 hK1 => ?_
        (refine AWp.seqR [0, 1, 2, 5, 6, 8, 9, 10, 11, 12, 19, 36, 46, 55] [] (by decide +kernel) fun K hK => ?_; simp -implicitDefEqProofs only [EV, Nat.reduceAdd, Nat.reduceEqDiff, reduceCtorEq, TF9, TF25, ]; refine ⟨_, .inl ⟨_, rfl, hki, rfl⟩, ?_⟩; (try simp -implicitDefEqProofs only [EV, Nat.reduceEqDiff, reduceCtorEq, TF23, TF25, hk, hlen', TF46]); refine hK _ _ ?_; clear hK K)
        refine AWp.takeIfK rfl ?_
        (refine AWp.seqR [0, 1, 2, 5, 6, 8, 9, 10, 11, 12, 19, 36, 46, 55] [] (by decide +kernel) fun K hK => ?_; simp -implicitDefEqProofs only [EV, Nat.reduceAdd, Nat.reduceEqDiff, reduceCtorEq, TF25]; refine ⟨_, .inl ⟨_, rfl, ok_Check1 x, rfl⟩, ?_⟩; (try simp -implicitDefEqProofs only [EV, forall_const, implies_true, Nat.reduceAdd, Nat.reduceEqDiff, Nat.reduceBEq, Nat.reduceLeDiff, Nat.reduceSub, Nat.reduceMul, Int.reduceEq, Int.reduceLT, Int.reduceLE, Int.reduceSub, Int.reduceAdd, Int.reduceToNat, reduceCtorEq, Int.reduceNeg, TF3, TF4, TF9, TF23, TF25]); refine hK _ _ ?_; clear hK K)
        exact AWp.ret ⟨_, by rw [Tryz.results37]; rfl, rfl⟩
def chkV : Option Int → SV
  | some q => .tuple [intV q, boolV true]
  | none => .tuple [intV 0, boolV false]
theorem ok_RCheck (p : Prog) (h : p.Sm) (env : List Formal) (hel : env.length ≤ sm) (he : ∀ f, f ∈ env → f.Sm) : ∀ x : Ty, x.Sm → CallOK Tryz.prog 35 [prV p, .d (.slice (foR env)), tyV x] (chkV (chk p env x)) := by
  intro x
  induction x using Ty.induct with
  | h x ih =>
  intro hx
  have hf := ok_RefFind env x hel
  have hfo := ok_RefFormals p x.name
  have hki := ok_Kind p x.name
  obtain ⟨hf1, hf2⟩ := formalsT_Sm h x.name
  have hbo := ok_RBounds p h env hel he (formalsT p x.name) hf1 hf2 x.args
  have hbg := @bounds_get p env (formalsT p x.name) x.args
  have hxl := hx.len
  rw [chk_eq, boundV_isSome]
  generalize findV env x = z at *
  generalize formalsT p x.name = fs at *
  generalize kindOf p x.name = k at *
  by_cases hz : z < 0
  · rw [if_neg (by simp [hz])]
    have hz' : ¬ z ≥ 0 := by omega
    by_cases hk : k = 0
    · rw [if_pos (.inl hk)]
      (refine CallOK.of_body Tryz.func35 rfl (by decide) (by rw [Tryz.ntmps35]; simp) ?_; rw [Tryz.ntmps35])
      (refine AWp.seqR [0, 1, 2, 3, 5, 6, 7, 8, 9, 10, 11, 12, 16, 33, 40, 54, 63] [] (by decide +kernel) fun K hK => ?_; simp -implicitDefEqProofs only [EV, Nat.reduceAdd, Nat.reduceEqDiff, Nat.reduceBEq, Nat.reduceLeDiff, reduceCtorEq, ]; refine hK _ _ ?_; clear hK K)
      refine AWp.seqK fun K1 hK1 => ?_
      (refine AWp.seqR [0, 1, 2, 3, 5, 6, 7, 8, 9, 10, 11, 12, 16, 33, 40, 54, 63] [] (by decide +kernel) fun K hK => ?_; simp -implicitDefEqProofs only [EV, Nat.reduceAdd, Nat.reduceEqDiff, reduceCtorEq, TF25, ]; refine ⟨_, .inl ⟨_, rfl, hf, rfl⟩, ?_⟩; (try simp -implicitDefEqProofs only [EV, Nat.reduceEqDiff, reduceCtorEq, hz']); refine hK _ _ ?_; clear hK K)
      refine AWp.skipIfK rfl hK1 ?_
      clear hK1 K1
      (refine AWp.seqR [0, 1, 2, 3, 5, 6, 7, 8, 9, 10, 11, 12, 16, 33, 40, 54, 63] [] (by decide +kernel) fun K hK => ?_; simp -implicitDefEqProofs only [EV, Nat.reduceAdd, Nat.reduceEqDiff, reduceCtorEq, TF9, TF25, TF30]; refine ⟨_, .inl ⟨_, rfl, hfo, rfl⟩, ?_⟩; (try simp -implicitDefEqProofs only [EV, forall_const, implies_true, Nat.reduceAdd, Nat.reduceEqDiff, Nat.reduceBEq, Nat.reduceLeDiff, Nat.reduceSub, Nat.reduceMul, Int.reduceEq, Int.reduceLT, Int.reduceLE, Int.reduceSub, Int.reduceAdd, Int.reduceToNat, reduceCtorEq, Int.reduceNeg, TF3, TF4, TF9, TF23, TF25, TF30]); refine hK _ _ ?_; clear hK K)
      refine AWp.seqK fun K1 hK1 => ?_
      (refine AWp.seqR [0, 1, 2, 3, 5, 6, 7, 8, 9, 10, 11, 12, 16, 33, 40, 54, 63] [] (by decide +kernel) fun K hK => ?_; simp -implicitDefEqProofs only [EV, Nat.reduceAdd, Nat.reduceEqDiff, reduceCtorEq, TF9, TF25, TF30]; refine ⟨_, .inl ⟨_, rfl, hki, rfl⟩, ?_⟩; (try simp -implicitDefEqProofs only [EV, Nat.reduceEqDiff, reduceCtorEq, hk]); refine hK _ _ ?_; clear hK K)
      refine AWp.takeIfK rfl ?_
      (refine AWp.seqR [0, 1, 2, 3, 5, 6, 7, 8, 9, 10, 11, 12, 16, 33, 40, 54, 63] [] (by decide +kernel) fun K hK => ?_; simp -implicitDefEqProofs only [EV, Nat.reduceEqDiff, reduceCtorEq, TF3, TF25]; refine hK _ _ ?_; clear hK K)
      exact AWp.ret ⟨_, by rw [Tryz.results35]; rfl, rfl⟩
    · by_cases hlen : fs.length = x.args.length
      · have hlen' : (fs.length : Int) = x.args.length := by omega
        have hbo := hbo hlen.symm hx.arg
        have hbg := fun hh => hbg hh hlen.symm
        rw [if_neg (by rintro (h1 | h1) <;> contradiction)]
        generalize boundsI p env fs x.args = b at *
        generalize hoc : chkL p env x.args = oc
        (refine CallOK.of_body Tryz.func35 rfl (by decide) (by rw [Tryz.ntmps35]; simp) ?_; rw [Tryz.ntmps35])
        (refine AWp.seqR [0, 1, 2, 3, 5, 6, 7, 8, 9, 10, 11, 12, 16, 33, 40, 54, 63] [] (by decide +kernel) fun K hK => ?_; simp -implicitDefEqProofs only [EV, Nat.reduceAdd, Nat.reduceEqDiff, Nat.reduceBEq, Nat.reduceLeDiff, reduceCtorEq, ]; refine hK _ _ ?_; clear hK K)
        refine AWp.seqK fun K1 hK1 => ?_
        (refine AWp.seqR [0, 1, 2, 3, 5, 6, 7, 8, 9, 10, 11, 12, 16, 33, 40, 54, 63] [] (by decide +kernel) fun K hK => ?_; simp -implicitDefEqProofs only [EV, Nat.reduceAdd, Nat.reduceEqDiff, reduceCtorEq, TF25, ]; refine ⟨_, .inl ⟨_, rfl, hf, rfl⟩, ?_⟩; (try simp -implicitDefEqProofs only [EV, Nat.reduceEqDiff, reduceCtorEq, hz']); refine hK _ _ ?_; clear hK K)
        refine AWp.skipIfK rfl hK1 ?_
        clear hK1 K1
        (refine AWp.seqR [0, 1, 2, 3, 5, 6, 7, 8, 9, 10, 11, 12, 16, 33, 40, 54, 63] [] (by decide +kernel) fun K hK => ?_; simp -implicitDefEqProofs only [EV, Nat.reduceAdd, Nat.reduceEqDiff, reduceCtorEq, TF9, TF25, TF30]; refine ⟨_, .inl ⟨_, rfl, hfo, rfl⟩, ?_⟩; (try simp -implicitDefEqProofs only [EV, forall_const, implies_true, Nat.reduceAdd, Nat.reduceEqDiff, Nat.reduceBEq, Nat.reduceLeDiff, Nat.reduceSub, Nat.reduceMul, Int.reduceEq, Int.reduceLT, Int.reduceLE, Int.reduceSub, Int.reduceAdd, Int.reduceToNat, reduceCtorEq, Int.reduceNeg, TF3, TF4, TF9, TF23, TF25, TF30]); refine hK _ _ ?_; clear hK K)
        refine AWp.seqK fun K1 hK1 => ?_
        (refine AWp.seqR [0, 1, 2, 3, 5, 6, 7, 8, 9, 10, 11, 12, 16, 33, 40, 54, 63] [] (by decide +kernel) fun K hK => ?_; simp -implicitDefEqProofs only [EV, Nat.reduceAdd, Nat.reduceEqDiff, reduceCtorEq, TF9, TF25, TF30, ]; refine ⟨_, .inl ⟨_, rfl, hki, rfl⟩, ?_⟩; (try simp -implicitDefEqProofs only [EV, Nat.reduceEqDiff, reduceCtorEq, TF23, TF25, hk, hlen', TF46]); refine hK _ _ ?_; clear hK K)
        refine AWp.skipIfK rfl hK1 ?_
        clear hK1 K1
        refine AWp.seqK fun K1 hK1 => ?_
        (refine AWp.seqR [0, 1, 2, 3, 5, 6, 7, 8, 9, 10, 11, 12, 16, 33, 40, 54, 63] [] (by decide +kernel) fun K hK => ?_; simp -implicitDefEqProofs only [EV, Nat.reduceEqDiff, reduceCtorEq, ]; refine hK _ _ ?_; clear hK K)
        refine AWp.block (AWp.forIdx x.args (X := Unit) (fun j _ => [(1, .d (.slice (foR env))), (3, .box 3 0), (5, .box 5 0), (8, .d (.slice (foR fs))), (9, intV j)]) (fun _ _ => [(3, .cells ((prC p).map .d)), (5, .cells ((tyC x).map .d))])
          (fun j _ => chkL p env (x.args.drop j) = oc) () hoc (by simp [sle, vle, sget]) (by simp [ble, bget, tyC, prC]) ?_ ?_)
        · intro _ hI
          rw [List.drop_length, chkL] at hI
          subst hI
          simp only
          refine AWp.seqK fun K2 hK2 => ?_
          (refine AWp.seqR [0, 1, 2, 3, 5, 6, 7, 8, 9, 10, 11, 12, 16, 33, 40, 54, 63] [] (by decide +kernel) fun K hK => ?_; simp -implicitDefEqProofs only [EV, Nat.reduceEqDiff, reduceCtorEq, TF23, TF25, Int.lt_irrefl]; refine hK _ _ ?_; clear hK K)
          refine AWp.stopK rfl ?_
          simp only [thenA, blockA, if_true]
          refine hK1 _ _ ?_
          clear hK2 K2 hK1 K1
          by_cases hb0 : 0 ≤ b
          · obtain ⟨u, hu⟩ := hbg hb0
            have hge : b ≥ 0 := hb0
            rw [if_pos hb0, hu, Option.getD_some]
            (refine AWp.seqR [0, 1, 2, 3, 5, 6, 7, 8, 9, 10, 11, 12, 16, 33, 40, 54, 63] [] (by decide +kernel) fun K hK => ?_; simp -implicitDefEqProofs only [EV, Nat.reduceAdd, Nat.reduceEqDiff, reduceCtorEq, TF23, TF25, TF30]; refine ⟨_, .inl ⟨_, rfl, hbo, rfl⟩, ?_⟩; (try simp -implicitDefEqProofs only [EV, ]); refine hK _ _ ?_; clear hK K)
            refine AWp.seqK fun K1 hK1 => ?_
            (refine AWp.seqR [0, 1, 2, 3, 5, 6, 7, 8, 9, 10, 11, 12, 16, 33, 40, 54, 63] [] (by decide +kernel) fun K hK => ?_; simp -implicitDefEqProofs only [EV, Nat.reduceEqDiff, reduceCtorEq, hge]; refine hK _ _ ?_; clear hK K)
            refine AWp.takeIfK rfl ?_
            (refine AWp.seqR [0, 1, 2, 3, 5, 6, 7, 8, 9, 10, 11, 12, 16, 33, 40, 54, 63] [] (by decide +kernel) fun K hK => ?_; simp -implicitDefEqProofs only [EV, Nat.reduceEqDiff, reduceCtorEq, TF3, TF23, TF25]; refine ⟨by omega, _, tyR_get hu, rfl, ?_⟩; (try simp -implicitDefEqProofs only [EV, Nat.reduceEqDiff, reduceCtorEq, ]); refine hK _ _ ?_; clear hK K)
            exact AWp.ret ⟨_, by rw [Tryz.results35]; rfl, rfl⟩
          · have hge : ¬ b ≥ 0 := hb0
            rw [if_neg hb0]
            (refine AWp.seqR [0, 1, 2, 3, 5, 6, 7, 8, 9, 10, 11, 12, 16, 33, 40, 54, 63] [] (by decide +kernel) fun K hK => ?_; simp -implicitDefEqProofs only [EV, Nat.reduceAdd, Nat.reduceEqDiff, reduceCtorEq, TF23, TF25, TF30]; refine ⟨_, .inl ⟨_, rfl, hbo, rfl⟩, ?_⟩; (try simp -implicitDefEqProofs only [EV, ]); refine hK _ _ ?_; clear hK K)
            refine AWp.seqK fun K1 hK1 => ?_
            (refine AWp.seqR [0, 1, 2, 3, 5, 6, 7, 8, 9, 10, 11, 12, 16, 33, 40, 54, 63] [] (by decide +kernel) fun K hK => ?_; simp -implicitDefEqProofs only [EV, Nat.reduceEqDiff, reduceCtorEq, hge]; refine hK _ _ ?_; clear hK K)
            refine AWp.skipIfK rfl hK1 ?_
            (refine AWp.seqR [0, 1, 2, 3, 5, 6, 7, 8, 9, 10, 11, 12, 16, 33, 40, 54, 63] [] (by decide +kernel) fun K hK => ?_; simp -implicitDefEqProofs only [EV, Nat.reduceEqDiff, reduceCtorEq, ]; refine hK _ _ ?_; clear hK K)
            exact AWp.ret ⟨_, by rw [Tryz.results35]; rfl, rfl⟩
        · intro j _ d hd hmem hdrop htake hlt hI
          have hc := ih d hmem (hx.arg d hmem)
          rw [hdrop, chkL] at hI
          refine AWp.seqK fun K2 hK2 => ?_
          (refine AWp.seqR [0, 1, 2, 3, 5, 6, 7, 8, 9, 10, 11, 12, 16, 33, 40, 54, 63] [] (by decide +kernel) fun K hK => ?_; simp -implicitDefEqProofs only [EV, Nat.reduceEqDiff, reduceCtorEq, TF23, TF25, hlt]; refine hK _ _ ?_; clear hK K)
          refine AWp.goOnK rfl hK2 ?_
          clear hK2 K2
          refine AWp.seqK fun K2 hK2 => ?_
          refine AWp.block ?_
          cases ho : chk p env d with
          | none =>
            rw [ho] at hc hI
            simp only [chkV] at hc hI
            (refine AWp.seqD [0, 1, 2, 3, 5, 6, 7, 8, 9, 10, 11, 12, 16, 33, 40, 54, 63] [] 13 mixed (by decide +kernel) (by decide +kernel) fun K hK => ?_; simp -implicitDefEqProofs only [EV, Nat.reduceAdd, Nat.reduceEqDiff, reduceCtorEq, TF23, TF25, TF30]; refine ⟨by omega, _, tyR_get hd, rfl, ?_⟩; (try simp -implicitDefEqProofs only [EV, Nat.reduceAdd, Nat.reduceEqDiff, reduceCtorEq, ]); refine ⟨_, .inl ⟨_, rfl, hc, rfl⟩, ?_⟩; (try simp -implicitDefEqProofs only [EV, Nat.reduceEqDiff, reduceCtorEq, ]); refine hK _ _ ?_; clear hK K)
            (refine AWp.seqR [0, 1, 2, 3, 5, 6, 7, 8, 9, 10, 11, 12, 16, 33, 40, 54, 63] [] (by decide +kernel) fun K hK => ?_; simp -implicitDefEqProofs only [EV, Nat.reduceEqDiff, reduceCtorEq, ]; refine hK _ _ ?_; clear hK K)
            refine AWp.condF rfl (AWp.skip (hK2 _ _ ?_))
            clear hK2 K2
            (refine AWp.lastR [0, 1, 2, 3, 5, 6, 7, 8, 9, 10, 11, 12, 16, 33, 40, 54, 63] [] (by decide +kernel) fun K hK => ?_; simp -implicitDefEqProofs only [EV, Nat.reduceEqDiff, reduceCtorEq, ]; refine ⟨by first | (unfold InR; omega) | (simp only [InR, sm] at *; omega), ?_⟩; (try simp -implicitDefEqProofs only [EV, forall_const, implies_true, Nat.reduceAdd, Nat.reduceEqDiff, Nat.reduceBEq, Nat.reduceLeDiff, Nat.reduceSub, Nat.reduceMul, Int.reduceEq, Int.reduceLT, Int.reduceLE, Int.reduceSub, Int.reduceAdd, Int.reduceToNat, reduceCtorEq, Int.reduceNeg, TF3, TF4, TF9, TF23, TF25, TF30]); refine hK _ _ ?_; clear hK K; try simp only [thenA, ])
            exact ⟨(), hI, (by simp [sle, vle, sget]), (by simp [ble, bget, tyC, prC])⟩
          | some q =>
            rw [ho] at hc hI
            simp only [chkV] at hc hI
            (refine AWp.seqD [0, 1, 2, 3, 5, 6, 7, 8, 9, 10, 11, 12, 16, 33, 40, 54, 63] [] 13 mixed (by decide +kernel) (by decide +kernel) fun K hK => ?_; simp -implicitDefEqProofs only [EV, Nat.reduceAdd, Nat.reduceEqDiff, reduceCtorEq, TF23, TF25, TF30]; refine ⟨by omega, _, tyR_get hd, rfl, ?_⟩; (try simp -implicitDefEqProofs only [EV, Nat.reduceAdd, Nat.reduceEqDiff, reduceCtorEq, ]); refine ⟨_, .inl ⟨_, rfl, hc, rfl⟩, ?_⟩; (try simp -implicitDefEqProofs only [EV, Nat.reduceEqDiff, reduceCtorEq, ]); refine hK _ _ ?_; clear hK K)
            (refine AWp.seqR [0, 1, 2, 3, 5, 6, 7, 8, 9, 10, 11, 12, 16, 33, 40, 54, 63] [] (by decide +kernel) fun K hK => ?_; simp -implicitDefEqProofs only [EV, Nat.reduceEqDiff, reduceCtorEq, ]; refine hK _ _ ?_; clear hK K)
            refine AWp.condT rfl ?_
            (refine AWp.seqR [0, 1, 2, 3, 5, 6, 7, 8, 9, 10, 11, 12, 16, 33, 40, 54, 63] [] (by decide +kernel) fun K hK => ?_; simp -implicitDefEqProofs only [EV, Nat.reduceEqDiff, reduceCtorEq, ]; refine hK _ _ ?_; clear hK K)
            subst hI
            exact AWp.ret ⟨_, by rw [Tryz.results35]; rfl, rfl⟩
      · have hlen' : ¬ (fs.length : Int) = x.args.length := by omega
        rw [if_pos (.inr hlen)]
        (refine CallOK.of_body Tryz.func35 rfl (by decide) (by rw [Tryz.ntmps35]; simp) ?_; rw [Tryz.ntmps35])
        (refine AWp.seqR [0, 1, 2, 3, 5, 6, 7, 8, 9, 10, 11, 12, 16, 33, 40, 54, 63] [] (by decide +kernel) fun K hK => ?_; simp -implicitDefEqProofs only [EV, Nat.reduceAdd, Nat.reduceEqDiff, Nat.reduceBEq, Nat.reduceLeDiff, reduceCtorEq, ]; refine hK _ _ ?_; clear hK K)
        refine AWp.seqK fun K1 hK1 => ?_
        (refine AWp.seqR [0, 1, 2, 3, 5, 6, 7, 8, 9, 10, 11, 12, 16, 33, 40, 54, 63] [] (by decide +kernel) fun K hK => ?_; simp -implicitDefEqProofs only [EV, Nat.reduceAdd, Nat.reduceEqDiff, reduceCtorEq, TF25, ]; refine ⟨_, .inl ⟨_, rfl, hf, rfl⟩, ?_⟩; (try simp -implicitDefEqProofs only [EV, Nat.reduceEqDiff, reduceCtorEq, hz']); refine hK _ _ ?_; clear hK K)
        refine AWp.skipIfK rfl hK1 ?_
        clear hK1 K1
        (refine AWp.seqR [0, 1, 2, 3, 5, 6, 7, 8, 9, 10, 11, 12, 16, 33, 40, 54, 63] [] (by decide +kernel) fun K hK => ?_; simp -implicitDefEqProofs only [EV, Nat.reduceAdd, Nat.reduceEqDiff, reduceCtorEq, TF9, TF25, TF30]; refine ⟨_, .inl ⟨_, rfl, hfo, rfl⟩, ?_⟩; (try simp -implicitDefEqProofs only [EV, forall_const, implies_true, Nat.reduceAdd, Nat.reduceEqDiff, Nat.reduceBEq, Nat.reduceLeDiff, Nat.reduceSub, Nat.reduceMul, Int.reduceEq, Int.reduceLT, Int.reduceLE, Int.reduceSub, Int.reduceAdd, Int.reduceToNat, reduceCtorEq, Int.reduceNeg, TF3, TF4, TF9, TF23, TF25, TF30]); refine hK _ _ ?_; clear hK K)
        refine AWp.seqK fun K1 hK1 => ?_
        (refine AWp.seqR [0, 1, 2, 3, 5, 6, 7, 8, 9, 10, 11, 12, 16, 33, 40, 54, 63] [] (by decide +kernel) fun K hK => ?_; simp -implicitDefEqProofs only [EV, Nat.reduceAdd, Nat.reduceEqDiff, reduceCtorEq, TF9, TF25, TF30, ]; refine ⟨_, .inl ⟨_, rfl, hki, rfl⟩, ?_⟩; (try simp -implicitDefEqProofs only [EV, Nat.reduceEqDiff, reduceCtorEq, TF23, TF25, hk, hlen', TF46]); refine hK _ _ ?_; clear hK K)
        refine AWp.takeIfK rfl ?_
        (refine AWp.seqR [0, 1, 2, 3, 5, 6, 7, 8, 9, 10, 11, 12, 16, 33, 40, 54, 63] [] (by decide +kernel) fun K hK => ?_; simp -implicitDefEqProofs only [EV, Nat.reduceEqDiff, reduceCtorEq, TF3, TF25]; refine hK _ _ ?_; clear hK K)
        exact AWp.ret ⟨_, by rw [Tryz.results35]; rfl, rfl⟩
  · have hz' : z ≥ 0 := by omega
    rw [if_pos (by simp [hz])]
    (refine CallOK.of_body Tryz.func35 rfl (by decide) (by rw [Tryz.ntmps35]; simp) ?_; rw [Tryz.ntmps35])
    (refine AWp.seqR [0, 1, 2, 3, 5, 6, 7, 8, 9, 10, 11, 12, 16, 33, 40, 54, 63] [] (by decide +kernel) fun K hK => ?_; simp -implicitDefEqProofs only [EV, Nat.reduceAdd, Nat.reduceEqDiff, Nat.reduceBEq, Nat.reduceLeDiff, reduceCtorEq, ]; refine hK _ _ ?_; clear hK K)
    refine AWp.seqK fun K1 hK1 => ?_
    (refine AWp.seqR [0, 1, 2, 3, 5, 6, 7, 8, 9, 10, 11, 12, 16, 33, 40, 54, 63] [] (by decide +kernel) fun K hK => ?_; simp -implicitDefEqProofs only [EV, Nat.reduceAdd, Nat.reduceEqDiff, reduceCtorEq, TF25, ]; refine ⟨_, .inl ⟨_, rfl, hf, rfl⟩, ?_⟩; (try simp -implicitDefEqProofs only [EV, Nat.reduceEqDiff, reduceCtorEq, hz']); refine hK _ _ ?_; clear hK K)
    refine AWp.takeIfK rfl ?_
    (refine AWp.seqR [0, 1, 2, 3, 5, 6, 7, 8, 9, 10, 11, 12, 16, 33, 40, 54, 63] [] (by decide +kernel) fun K hK => ?_; simp -implicitDefEqProofs only [EV, Nat.reduceEqDiff, reduceCtorEq, ]; refine hK _ _ ?_; clear hK K)
    exact AWp.ret ⟨_, by rw [Tryz.results35]; rfl, rfl⟩
end Go.Abs
