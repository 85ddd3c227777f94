/- expr.mapped, expr.Subst, expr.Clone -/
import Derived.Test.YtibfepggadjjgaaF08
namespace Go.Abs
set_option linter.unusedSimpArgs false
set_option linter.unusedVariables false
open Go Go.Proofs
set_option maxRecDepth 100000
set_option maxHeartbeats 1000000

inductive Ex.Sm : Ex → Prop where
  | mk (k : Int) (n : Str) (t : Ty) (a : List Ty) (ks : List Ex) (p : Int) : n.length ≤ sm → t.Sm → a.length ≤ sm → (∀ t, t ∈ a → t.Sm) → ks.length ≤ sm → (∀ e, e ∈ ks → Ex.Sm e) → Ex.Sm (.mk k n t a ks p)
theorem Ex.Sm.name {e : Ex} (h : e.Sm) : e.name.length ≤ sm := by cases h; assumption
theorem Ex.Sm.type {e : Ex} (h : e.Sm) : e.type.Sm := by cases h; assumption
theorem Ex.Sm.targs {e : Ex} (h : e.Sm) : e.targs.length ≤ sm ∧ ∀ t, t ∈ e.targs → t.Sm := by cases h; exact ⟨by assumption, by assumption⟩
theorem Ex.Sm.kids {e : Ex} (h : e.Sm) : e.kids.length ≤ sm ∧ ∀ t, t ∈ e.kids → t.Sm := by cases h; exact ⟨by assumption, by assumption⟩

/-- one expression's types -/
def Ex.sub1 (vars : List Str) (args : List Ty) (e : Ex) : Ex := .mk e.kind e.name (e.type.subst vars args) (e.targs.map (Ty.subst vars args)) e.kids e.pos
theorem ok_Sub1 (vars : List Str) (args : List Ty) (ha : ∀ u, u ∈ args → u.Sm) (e : Ex) (ht : e.type.Sm) (hl : e.targs.length ≤ sm) (hta : ∀ t, t ∈ e.targs → t.Sm) :
    CallOK Try.prog 64 [exV e, .dptr [.slice (strR vars)] 0, .dptr [.slice (tyR args)] 0] (exV (e.sub1 vars args)) := by
  (refine CallOK.of_body Try.func64 rfl (by decide) (by rw [Try.ntmps64]; simp) ?_; rw [Try.ntmps64])
  (refine AWp.seqR [0, 1, 2, 3, 4] [] (by decide +kernel) fun K hK => ?_; simp -implicitDefEqProofs only [EV, forall_const, implies_true, Nat.reduceAdd, Nat.reduceEqDiff, Nat.reduceBEq, Nat.reduceLeDiff, Nat.reduceSub, Nat.reduceMul, Int.reduceEq, Int.reduceLT, Int.reduceLE, Int.reduceSub, Int.reduceAdd, Int.reduceToNat, reduceCtorEq, Int.reduceNeg, TF3, TF4, TF9, TF23, TF25, TF28, TF33]; refine hK _ _ ?_; clear hK K)
  (refine AWp.seqD [0, 1, 2, 3, 4] [] 11 mixed (by decide +kernel) (by decide +kernel) fun K hK => ?_; simp -implicitDefEqProofs only [EV, forall_const, implies_true, Nat.reduceAdd, Nat.reduceEqDiff, Nat.reduceBEq, Nat.reduceLeDiff, Nat.reduceSub, Nat.reduceMul, Int.reduceEq, Int.reduceLT, Int.reduceLE, Int.reduceSub, Int.reduceAdd, Int.reduceToNat, reduceCtorEq, Int.reduceNeg, TF3, TF4, TF9, TF23, TF25, TF28, TF33])
  refine ⟨tyV (e.type.subst vars args), .inl ⟨_, rfl, ok_Subst vars args ha e.type ht, rfl⟩, ?_⟩
  simp -implicitDefEqProofs only [EV, forall_const, implies_true, Nat.reduceAdd, Nat.reduceEqDiff, Nat.reduceBEq, Nat.reduceLeDiff, Nat.reduceSub, Nat.reduceMul, Int.reduceEq, Int.reduceLT, Int.reduceLE, Int.reduceSub, Int.reduceAdd, Int.reduceToNat, reduceCtorEq, Int.reduceNeg, TF3, TF4, TF9, TF23, TF25, TF28, TF33]
  refine ⟨tysV (e.targs.map (Ty.subst vars args)), .inl ⟨_, rfl, ok_All (Ty.subst vars args) vars args e.targs hl (fun t h => ok_Subst vars args ha t (hta t h)), rfl⟩, ?_⟩
  simp -implicitDefEqProofs only [EV, forall_const, implies_true, Nat.reduceAdd, Nat.reduceEqDiff, Nat.reduceBEq, Nat.reduceLeDiff, Nat.reduceSub, Nat.reduceMul, Int.reduceEq, Int.reduceLT, Int.reduceLE, Int.reduceSub, Int.reduceAdd, Int.reduceToNat, reduceCtorEq, Int.reduceNeg, TF3, TF4, TF9, TF23, TF25, TF28, TF33]
  (refine hK _ _ ?_; clear hK K)
  (refine AWp.seqR [0, 1, 2, 3, 4] [] (by decide +kernel) fun K hK => ?_; simp -implicitDefEqProofs only [EV, forall_const, implies_true, Nat.reduceAdd, Nat.reduceEqDiff, Nat.reduceBEq, Nat.reduceLeDiff, Nat.reduceSub, Nat.reduceMul, Int.reduceEq, Int.reduceLT, Int.reduceLE, Int.reduceSub, Int.reduceAdd, Int.reduceToNat, reduceCtorEq, Int.reduceNeg, TF3, TF4, TF9, TF23, TF25, TF28, TF33]; refine hK _ _ ?_; clear hK K)
  exact AWp.ret ⟨_, by rw [Try.results64]; rfl, rfl⟩

mutual
theorem SV.sub_closed (k : Nat) (f : Rep1) : ∀ {x : SV}, x.closed = true → x.sub k f = x
  | .undef, _ => rfl
  | .d _, _ => rfl
  | .dptr _ _, _ => rfl
  | .agg cs, h => by simp only [SV.closed] at h; simp only [SV.sub, SV.subL_closed k f h]
  | .tuple cs, h => by simp only [SV.closed] at h; simp only [SV.sub, SV.subL_closed k f h]
  | .clo _ cs, h => by simp only [SV.closed] at h; simp only [SV.sub, SV.subL_closed k f h]
  | .box _ _, h => by simp [SV.closed] at h
  | .acc _, h => by simp [SV.closed] at h
  | .aptr _ _ _, h => by simp [SV.closed] at h
  | .mp _, h => by simp [SV.closed] at h
theorem SV.subL_closed (k : Nat) (f : Rep1) : ∀ {xs : List SV}, SV.closedAll xs = true → SV.subL k f xs = xs
  | [], _ => rfl
  | c :: cs, h => by
    simp only [SV.closedAll, Bool.and_eq_true] at h
    simp only [SV.subL, SV.sub_closed k f h.1, SV.subL_closed k f h.2]
end

/-- kids set -/
def Ex.kidded (e : Ex) (ks : List Ex) : Ex := .mk e.kind e.name e.type e.targs ks e.pos
mutual
def Ex.mapped (g : Ex → Ex) : Ex → Ex
  | .mk k n t a ks p => g (.mk k n t a (Ex.mappedL g ks) p)
def Ex.mappedL (g : Ex → Ex) : List Ex → List Ex
  | [] => []
  | e :: es => e.mapped g :: Ex.mappedL g es
end
theorem mappedL_map (g : Ex → Ex) : ∀ l, Ex.mappedL g l = l.map (Ex.mapped g)
  | [] => by rw [Ex.mappedL]; rfl
  | t :: ts => by rw [Ex.mappedL, mappedL_map g ts]; rfl
theorem mapped_eq (g : Ex → Ex) (e : Ex) : e.mapped g = g (e.kidded (e.kids.map (Ex.mapped g))) := by
  cases e with
  | mk k n t a ks p => rw [Ex.mapped, mappedL_map]; rfl

theorem ok_mapped (f : FuncId) (caps : List SV) (hco : coerceL [] caps = some caps) (hcl : SV.closedAll caps = true) (g : Ex → Ex)
    (hg : ∀ (e : Ex) (ks : List Ex), e.Sm → CallOK Try.prog f (exV (e.kidded ks) :: caps) (exV (g (e.kidded ks)))) :
    ∀ e : Ex, e.Sm → CallOK Try.prog 63 [exV e, .clo f caps] (exV (e.mapped g)) := by
  intro e
  induction e using Ex.induct with
  | h e ih =>
  intro hsm
  have heqn := mapped_eq g e
  have hl := hsm.kids.1
  have hh : ∀ k, SV.hasAny k caps = false := fun k => SV.not_hasAny_of_closed k hcl
  have hff : (false = true) = False := by simp
  rw [heqn]
  (refine CallOK.of_body Try.func63 rfl (by decide) (by rw [Try.ntmps63]; simp) ?_; rw [Try.ntmps63])
  (refine AWp.seqR [0, 1, 2, 4, 5, 7, 9, 10, 11, 12] [] (by decide +kernel) fun K hK => ?_; simp -implicitDefEqProofs only [EV, forall_const, implies_true, Nat.reduceAdd, Nat.reduceEqDiff, Nat.reduceBEq, Nat.reduceLeDiff, Nat.reduceSub, Nat.reduceMul, Int.reduceEq, Int.reduceLT, Int.reduceLE, Int.reduceSub, Int.reduceAdd, Int.reduceToNat, reduceCtorEq, Int.reduceNeg, TF3, TF4, TF9, TF26, TF28, hh]; refine hK _ _ ?_; clear hK K)
  (refine AWp.seqR [0, 1, 2, 4, 5, 7, 9, 10, 11, 12] [] (by decide +kernel) fun K hK => ?_; simp -implicitDefEqProofs only [EV, forall_const, implies_true, Nat.reduceAdd, Nat.reduceEqDiff, Nat.reduceBEq, Nat.reduceLeDiff, Nat.reduceSub, Nat.reduceMul, Int.reduceEq, Int.reduceLT, Int.reduceLE, Int.reduceSub, Int.reduceAdd, Int.reduceToNat, reduceCtorEq, Int.reduceNeg, TF3, TF4, TF9, TF26, TF28, hh]; refine hK _ _ ?_; clear hK K)
  refine AWp.promote 5 8 5 rfl ?_
  simp only [purge1, spurge, SV.has, hh, Bool.false_eq_true, if_false]
  refine AWp.seqK fun K1 hK1 => ?_
  have fin : ∀ sl bx, sle sl [(1, .clo f caps), (2, .box 2 0), (4, .box 4 0), (5, .acc 5)] →
      ble bx [(5, .rows 8 (exR (e.kids.map (Ex.mapped g)))), (2, .cells ((exC e).map .d)), (4, .cells [.d (.int .i64 0), .d (.str []), .d (.str []), .d .nil, .d (.int .i64 0), .d .nil, .d .nil, .d (.int .i64 0)])] → K1 sl bx := by
    intro sl bx h1 h2
    refine hK1 _ _ (AWp.weaken h1 h2 ?_)
    clear hK1 K1 h1 h2
    refine AWp.publish 5 rfl ?_
    refine AWp.weaken (sl' := [(1, .clo f caps), (2, .box 2 0), (4, .box 4 0), (5, .d (.slice (exR (e.kids.map (Ex.mapped g)))))])
      (bx' := [(2, .cells ((exC e).map .d)), (4, .cells [.d (.int .i64 0), .d (.str []), .d (.str []), .d .nil, .d (.int .i64 0), .d .nil, .d .nil, .d (.int .i64 0)])])
      (by simp [subSl, SV.sub, sle, vle, sget, SV.subL_closed _ _ hcl]) (by simp [subBx, BoxC.sub, SV.subL, SV.sub, ble, bget, berase, exC]) ?_
    (refine AWp.seqR [0, 1, 2, 4, 5, 7, 9, 10, 11, 12] [] (by decide +kernel) fun K hK => ?_; simp -implicitDefEqProofs only [EV, forall_const, implies_true, Nat.reduceAdd, Nat.reduceEqDiff, Nat.reduceBEq, Nat.reduceLeDiff, Nat.reduceSub, Nat.reduceMul, Int.reduceEq, Int.reduceLT, Int.reduceLE, Int.reduceSub, Int.reduceAdd, Int.reduceToNat, reduceCtorEq, Int.reduceNeg, TF3, TF4, TF9, TF26, TF28, hh]; refine hK _ _ ?_; clear hK K)
    (refine AWp.seqR [0, 1, 2, 4, 5, 7, 9, 10, 11, 12] [] (by decide +kernel) fun K hK => ?_; simp -implicitDefEqProofs only [EV, forall_const, implies_true, Nat.reduceAdd, Nat.reduceEqDiff, Nat.reduceBEq, Nat.reduceLeDiff, Nat.reduceSub, Nat.reduceMul, Int.reduceEq, Int.reduceLT, Int.reduceLE, Int.reduceSub, Int.reduceAdd, Int.reduceToNat, reduceCtorEq, Int.reduceNeg, TF3, TF4, TF9, TF26, TF28, hco, hh])
    refine ⟨exV (g (e.kidded (e.kids.map (Ex.mapped g)))), .inl ⟨_, rfl, hg e _ hsm, rfl⟩, ?_⟩
    simp -implicitDefEqProofs only [EV, forall_const, implies_true, Nat.reduceAdd, Nat.reduceEqDiff, Nat.reduceBEq, Nat.reduceLeDiff, Nat.reduceSub, Nat.reduceMul, Int.reduceEq, Int.reduceLT, Int.reduceLE, Int.reduceSub, Int.reduceAdd, Int.reduceToNat, reduceCtorEq, Int.reduceNeg, TF3, TF4, TF9, TF26, TF28, hco, hh]
    (refine hK _ _ ?_; clear hK K)
    exact AWp.ret ⟨_, by rw [Try.results63]; rfl, rfl⟩
  (refine AWp.seqR [0, 1, 2, 4, 5, 7, 9, 10, 11, 12] [] (by decide +kernel) fun K hK => ?_; simp -implicitDefEqProofs only [EV, forall_const, implies_true, Nat.reduceAdd, Nat.reduceEqDiff, Nat.reduceBEq, Nat.reduceLeDiff, Nat.reduceSub, Nat.reduceMul, Int.reduceEq, Int.reduceLT, Int.reduceLE, Int.reduceSub, Int.reduceAdd, Int.reduceToNat, reduceCtorEq, Int.reduceNeg, TF3, TF4, TF9, TF26, TF28, hh]; refine hK _ _ ?_; clear hK K)
  refine AWp.block (AWp.loop (X := Nat) (fun x => [(11, intV x), (10, intV e.kids.length), (9, .d (.slice (exR e.kids))), (1, .clo f caps), (2, .box 2 0), (4, .box 4 0), (5, .acc 5)])
    (fun x => [(5, .rows 8 (exR ((e.kids.take x).map (Ex.mapped g)))), (2, .cells ((exC e).map .d)), (4, .cells [.d (.int .i64 0), .d (.str []), .d (.str []), .d .nil, .d (.int .i64 0), .d .nil, .d .nil, .d (.int .i64 0)])])
    (fun x => x ≤ e.kids.length) (fun x => e.kids.length - x) 0 ?_ ?_ ?_ ?_)
  · simp
  · exact (by simp [sle, vle, sget])
  · simp [ble, bget, exR_nil, exC]
  rintro j hj
  by_cases hlt : (j : Int) < (e.kids.length : Int)
  · have hlt' : j < e.kids.length := by omega
    have hy : e.kids[j]? = some e.kids[j] := List.getElem?_eq_getElem hlt'
    have hmem : e.kids[j] ∈ e.kids := List.getElem_mem hlt'
    have htake : e.kids.take (j + 1) = e.kids.take j ++ [e.kids[j]] := List.take_succ_eq_append_getElem hlt'
    generalize e.kids[j] = y at *
    (refine AWp.seqR [0, 1, 2, 4, 5, 7, 9, 10, 11, 12] [] (by decide +kernel) fun K hK => ?_; simp -implicitDefEqProofs only [EV, forall_const, implies_true, Nat.reduceAdd, Nat.reduceEqDiff, Nat.reduceBEq, Nat.reduceLeDiff, Nat.reduceSub, Nat.reduceMul, Int.reduceEq, Int.reduceLT, Int.reduceLE, Int.reduceSub, Int.reduceAdd, Int.reduceToNat, reduceCtorEq, Int.reduceNeg, TF3, TF4, TF9, TF26, TF28, hlt, hh]; refine hK _ _ ?_; clear hK K)
    refine AWp.seqK fun K2 hK2 => ?_
    refine AWp.condT rfl (AWp.skip (hK2 _ _ ?_))
    clear hK2 K2
    refine AWp.seqK fun K2 hK2 => ?_
    refine AWp.block ?_
    (refine AWp.seqR [0, 1, 2, 4, 5, 7, 9, 10, 11, 12] [] (by decide +kernel) fun K hK => ?_; simp -implicitDefEqProofs only [EV, forall_const, implies_true, Nat.reduceAdd, Nat.reduceEqDiff, Nat.reduceBEq, Nat.reduceLeDiff, Nat.reduceSub, Nat.reduceMul, Int.reduceEq, Int.reduceLT, Int.reduceLE, Int.reduceSub, Int.reduceAdd, Int.reduceToNat, reduceCtorEq, Int.reduceNeg, TF3, TF4, TF9, TF26, TF28, hh])
    refine ⟨by omega, exC y, exR_get hy, rfl, ?_⟩
    simp -implicitDefEqProofs only [EV, forall_const, implies_true, Nat.reduceAdd, Nat.reduceEqDiff, Nat.reduceBEq, Nat.reduceLeDiff, Nat.reduceSub, Nat.reduceMul, Int.reduceEq, Int.reduceLT, Int.reduceLE, Int.reduceSub, Int.reduceAdd, Int.reduceToNat, reduceCtorEq, Int.reduceNeg, TF3, TF4, TF9, TF26, TF28, hco, hh]
    (refine hK _ _ ?_; clear hK K)
    (refine AWp.lastR [0, 1, 2, 4, 5, 7, 9, 10, 11, 12] [] (by decide +kernel) fun K hK => ?_; simp -implicitDefEqProofs only [EV, forall_const, implies_true, Nat.reduceAdd, Nat.reduceEqDiff, Nat.reduceBEq, Nat.reduceLeDiff, Nat.reduceSub, Nat.reduceMul, Int.reduceEq, Int.reduceLT, Int.reduceLE, Int.reduceSub, Int.reduceAdd, Int.reduceToNat, reduceCtorEq, Int.reduceNeg, TF3, TF4, TF9, TF26, TF28, hco, hh])
    refine ⟨exV (y.mapped g), .inl ⟨_, rfl, ih y hmem (hsm.kids.2 y hmem), rfl⟩, ?_⟩
    simp -implicitDefEqProofs only [EV, forall_const, implies_true, Nat.reduceAdd, Nat.reduceEqDiff, Nat.reduceBEq, Nat.reduceLeDiff, Nat.reduceSub, Nat.reduceMul, Int.reduceEq, Int.reduceLT, Int.reduceLE, Int.reduceSub, Int.reduceAdd, Int.reduceToNat, reduceCtorEq, Int.reduceNeg, TF3, TF4, TF9, TF26, TF28, hco, hh]
    refine ⟨by simp, by rw [List.length_map, List.length_take]; unfold lim sm at *; omega, ?_⟩
    (refine hK _ _ ?_; clear hK K; try simp only [thenA, blockA, if_true])
    refine hK2 _ _ ?_
    clear hK2 K2
    (refine AWp.lastR [0, 1, 2, 4, 5, 7, 9, 10, 11, 12] [] (by decide +kernel) fun K hK => ?_; simp -implicitDefEqProofs only [EV, forall_const, implies_true, Nat.reduceAdd, Nat.reduceEqDiff, Nat.reduceBEq, Nat.reduceLeDiff, Nat.reduceSub, Nat.reduceMul, Int.reduceEq, Int.reduceLT, Int.reduceLE, Int.reduceSub, Int.reduceAdd, Int.reduceToNat, reduceCtorEq, Int.reduceNeg, TF3, TF4, TF9, TF26, TF28])
    refine ⟨by unfold InR; unfold sm at *; omega, ?_⟩
    (refine hK _ _ ?_; clear hK K; try simp only [thenA, blockA, if_true])
    refine ⟨j + 1, by omega, by omega, by simp [sle, vle, sget], ?_⟩
    rw [htake]
    simp [ble, bget, exR_map, exC]
  · (refine AWp.seqR [0, 1, 2, 4, 5, 7, 9, 10, 11, 12] [] (by decide +kernel) fun K hK => ?_; simp -implicitDefEqProofs only [EV, forall_const, implies_true, Nat.reduceAdd, Nat.reduceEqDiff, Nat.reduceBEq, Nat.reduceLeDiff, Nat.reduceSub, Nat.reduceMul, Int.reduceEq, Int.reduceLT, Int.reduceLE, Int.reduceSub, Int.reduceAdd, Int.reduceToNat, reduceCtorEq, Int.reduceNeg, TF3, TF4, TF9, TF26, TF28, hlt, hh]; refine hK _ _ ?_; clear hK K)
    refine AWp.seqK fun K2 hK2 => ?_
    refine AWp.condF rfl (AWp.exit ?_)
    simp only [thenA, blockA, if_true]
    rw [List.take_of_length_le (by omega)]
    exact fin _ _ (by simp [sle, vle, sget]) (by simp [ble, bget, exC, tyC, foC, paC, siC, deC, prC])

def Ex.subst (vars : List Str) (args : List Ty) : Ex → Ex := Ex.mapped (Ex.sub1 vars args)
theorem ok_ESubst (vars : List Str) (args : List Ty) (ha : ∀ u, u ∈ args → u.Sm) (e : Ex) (he : e.Sm) : CallOK Try.prog 58 [exV e, strsV vars, tysV args] (exV (e.subst vars args)) := by
  have hm := ok_mapped 64 [.dptr [.slice (strR vars)] 0, .dptr [.slice (tyR args)] 0] rfl rfl (Ex.sub1 vars args)
    (fun e ks h => ok_Sub1 vars args ha (e.kidded ks) h.type h.targs.1 h.targs.2) e he
  (refine CallOK.of_body Try.func58 rfl (by decide) (by rw [Try.ntmps58]; simp) ?_; rw [Try.ntmps58])
  (refine AWp.seqR [0, 1, 2, 3, 4, 5, 6] [] (by decide +kernel) fun K hK => ?_; simp -implicitDefEqProofs only [EV, forall_const, implies_true, Nat.reduceAdd, Nat.reduceEqDiff, Nat.reduceBEq, Nat.reduceLeDiff, Nat.reduceSub, Nat.reduceMul, Int.reduceEq, Int.reduceLT, Int.reduceLE, Int.reduceSub, Int.reduceAdd, Int.reduceToNat, reduceCtorEq, Int.reduceNeg, TF3, TF4, TF9, TF23, TF25, TF28, TF33]; refine hK _ _ ?_; clear hK K)
  refine AWp.freeze 4 rfl rfl ?_
  refine AWp.freeze 5 rfl rfl ?_
  refine AWp.weaken (sl' := [(3, .box 3 0), (4, .dptr [.slice (strR vars)] 0), (5, .dptr [.slice (tyR args)] 0), (6, .box 6 0)])
    (bx' := [(3, .cells ((exC e).map .d)), (6, .cells [.d (.int .i64 0), .d (.str []), .d (.str []), .d .nil, .d (.int .i64 0), .d .nil, .d .nil, .d (.int .i64 0)])])
    (by simp [subSl, SV.sub, SV.subL, sle, vle, sget]) (by simp [subBx, BoxC.sub, SV.subL, SV.sub, ble, bget, berase, exC]) ?_
  (refine AWp.seqR [0, 1, 2, 3, 4, 5, 6] [] (by decide +kernel) fun K hK => ?_; simp -implicitDefEqProofs only [EV, forall_const, implies_true, Nat.reduceAdd, Nat.reduceEqDiff, Nat.reduceBEq, Nat.reduceLeDiff, Nat.reduceSub, Nat.reduceMul, Int.reduceEq, Int.reduceLT, Int.reduceLE, Int.reduceSub, Int.reduceAdd, Int.reduceToNat, reduceCtorEq, Int.reduceNeg, TF3, TF4, TF9, TF23, TF25, TF28, TF33])
  refine ⟨exV (e.subst vars args), .inl ⟨_, rfl, hm, rfl⟩, ?_⟩
  simp -implicitDefEqProofs only [EV, forall_const, implies_true, Nat.reduceAdd, Nat.reduceEqDiff, Nat.reduceBEq, Nat.reduceLeDiff, Nat.reduceSub, Nat.reduceMul, Int.reduceEq, Int.reduceLT, Int.reduceLE, Int.reduceSub, Int.reduceAdd, Int.reduceToNat, reduceCtorEq, Int.reduceNeg, TF3, TF4, TF9, TF23, TF25, TF28, TF33]
  (refine hK _ _ ?_; clear hK K)
  exact AWp.ret ⟨_, by rw [Try.results58]; rfl, rfl⟩
theorem esubst_nil : ∀ e : Ex, e.subst [] [] = e := by
  intro e
  induction e using Ex.induct with
  | h e ih =>
  have h1 : e.kids.map (Ex.mapped (Ex.sub1 [] [])) = e.kids := by
    have := List.map_congr_left (f := Ex.mapped (Ex.sub1 [] [])) (g := id) ih
    rw [this]; simp
  have h2 : ∀ l : List Ty, l.map (Ty.subst [] []) = l := fun l => by rw [List.map_congr_left (g := id) fun t _ => subst_nil t]; simp
  show Ex.mapped (Ex.sub1 [] []) e = e
  rw [mapped_eq, h1]
  cases e
  simp [Ex.sub1, Ex.kidded, Ex.kind, Ex.name, Ex.type, Ex.targs, Ex.kids, Ex.pos, subst_nil, h2]
theorem ok_EClone (e : Ex) (h : e.Sm) : CallOK Try.prog 45 [exV e] (exV e) := by
  (refine CallOK.of_body Try.func45 rfl (by decide) (by rw [Try.ntmps45]; simp) ?_; rw [Try.ntmps45])
  (refine AWp.seqR [0, 1, 2] [] (by decide +kernel) fun K hK => ?_; simp -implicitDefEqProofs only [EV, forall_const, implies_true, Nat.reduceAdd, Nat.reduceEqDiff, Nat.reduceBEq, Nat.reduceLeDiff, Nat.reduceSub, Nat.reduceMul, Int.reduceEq, Int.reduceLT, Int.reduceLE, Int.reduceSub, Int.reduceAdd, Int.reduceToNat, reduceCtorEq, Int.reduceNeg, TF3, TF4, TF9, TF28]; refine hK _ _ ?_; clear hK K)
  (refine AWp.seqR [0, 1, 2] [] (by decide +kernel) fun K hK => ?_; simp -implicitDefEqProofs only [EV, forall_const, implies_true, Nat.reduceAdd, Nat.reduceEqDiff, Nat.reduceBEq, Nat.reduceLeDiff, Nat.reduceSub, Nat.reduceMul, Int.reduceEq, Int.reduceLT, Int.reduceLE, Int.reduceSub, Int.reduceAdd, Int.reduceToNat, reduceCtorEq, Int.reduceNeg, TF3, TF4, TF9, TF28])
  have hs := ok_ESubst [] [] (by simp) e h
  rw [esubst_nil] at hs
  refine ⟨exV e, .inl ⟨_, rfl, hs, rfl⟩, ?_⟩
  simp -implicitDefEqProofs only [EV, forall_const, implies_true, Nat.reduceAdd, Nat.reduceEqDiff, Nat.reduceBEq, Nat.reduceLeDiff, Nat.reduceSub, Nat.reduceMul, Int.reduceEq, Int.reduceLT, Int.reduceLE, Int.reduceSub, Int.reduceAdd, Int.reduceToNat, reduceCtorEq, Int.reduceNeg, TF3, TF4, TF9, TF28]
  (refine hK _ _ ?_; clear hK K)
  exact AWp.ret ⟨_, by rw [Try.results45]; rfl, rfl⟩
end Go.Abs
