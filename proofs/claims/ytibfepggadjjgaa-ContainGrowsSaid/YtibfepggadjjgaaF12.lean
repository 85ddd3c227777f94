/- table.New -/
import Derived.Test.YtibfepggadjjgaaF11
namespace Go.Abs
set_option linter.unusedSimpArgs false
set_option linter.unusedVariables false
open Go Go.Proofs
set_option maxRecDepth 100000
set_option maxHeartbeats 1000000

def tkey (a b : Str) : D := .agg [.str a, .str b]
def isStr (P : Program) (t : TypeId) : Bool := match P.underlying t with | some .string => true | _ => false
def twoStr (P : Program) (kt : TypeId) : Bool := match P.underlying kt with
  | some (.struct fs) => match fs.toList with
    | [f1, f2] => f1.offset == 0 && f2.offset == 1 && isStr P f1.type && isStr P f2.type && P.cellsOf f1.type == 1 && P.cellsOf f2.type == 1 && P.cellsOf kt == 2 && fs.all (·.name != "_") && Nat.ble 1 P.types.size
    | _ => false
  | _ => false
theorem isStr_eq {P : Program} {t : TypeId} (h : isStr P t = true) : P.underlying t = some .string := by
  unfold isStr at h
  split at h <;> simp_all
theorem key_two {P : Program} {kt : TypeId} (h : twoStr P kt = true) (a b : Str) (ha : a.length ≤ lim) (hb : b.length ≤ lim) : KeyAt P kt (tkey a b) := by
  unfold twoStr at h
  split at h
  · rename_i fs hu
    split at h
    · rename_i f1 f2 hfs
      simp only [Bool.and_eq_true, beq_iff_eq, Nat.ble_eq] at h
      obtain ⟨⟨⟨⟨⟨⟨⟨⟨o1, o2⟩, u1⟩, u2⟩, c1⟩, c2⟩, ct⟩, hn⟩, hsz⟩ := h
      obtain ⟨d, hd⟩ : ∃ d, P.types.size + 1 = d + 2 := ⟨P.types.size - 1, by omega⟩
      refine ⟨rfl, ?_, ?_⟩
      · simp [tkey, D.kv, Value.formed, hu, ct]
      · rw [hd]
        have e1 : ∀ s : Str, s.length ≤ lim → P.keyLits (d + 1) f1.type [.string ⟨s.toArray⟩] = some [.string s] := fun s hs => by
          simp [Program.keyLits, isStr_eq u1, ByteArray.size]
          unfold lim at hs; unfold maxLen; omega
        have e2 : ∀ s : Str, s.length ≤ lim → P.keyLits (d + 1) f2.type [.string ⟨s.toArray⟩] = some [.string s] := fun s hs => by
          simp [Program.keyLits, isStr_eq u2, ByteArray.size]
          unfold lim at hs; unfold maxLen; omega
        unfold Program.keyLits
        rw [hu]
        simp only [tkey, D.kv, Value.cells, List.map_cons, List.map_nil, D.lit, Lit.value, hu, List.length_cons, List.length_nil, ct, hn, and_self, if_true, hfs, List.mapM_cons, List.mapM_nil, o1, o2, c1, c2,
          List.drop_zero, List.drop_succ_cons, List.take_succ_cons, List.take_zero, e1 a ha, e2 b hb]
        rfl
    · simp at h
  · simp at h
theorem two79 : twoStr Try.prog 79 = true := by kernel_rfl

/-- a declaration's key -/
def keyOfD (d : Decl) : Option D := if d.kind = 1 ∨ d.kind = 2 then some (tkey d.name []) else if d.kind = 3 then some (tkey d.name (46 :: d.sig.name)) else none
def tabStep (m : List (D × D)) (i : Nat) (d : Decl) : List (D × D) := match keyOfD d with
  | none => m
  | some k => if (kfind k.lits m 0).isSome = true then m else kput k (.int .i64 i) m
def tabF : List Decl → Nat → List (D × D) → List (D × D)
  | [], _, m => m
  | d :: ds, i, m => tabF ds (i + 1) (tabStep m i d)
def tabM (p : Prog) : List (D × D) := tabF p.decls 0 []
def tabC (p : Prog) : List D := prC p ++ [.map (tabM p)]

theorem kput_keys {P : Program} {kt : TypeId} {m : List (D × D)} {k v : D} (h : ∀ kv, kv ∈ m → KeyAt P kt kv.1) (hk : KeyAt P kt k) : ∀ kv, kv ∈ kput k v m → KeyAt P kt kv.1 := by
  intro kv hkv
  unfold kput at hkv
  split at hkv
  · rcases List.mem_or_eq_of_mem_set hkv with hkv | rfl
    · exact h kv hkv
    · exact hk
  · rcases List.mem_append.1 hkv with hkv | hkv
    · exact h kv hkv
    · simp only [List.mem_cons, List.not_mem_nil, or_false] at hkv
      subst hkv; exact hk

theorem ok_New (p : Prog) (h : p.Sm) : CallOK Try.prog 23 [prV p] (.dptr (tabC p) 0) := by
  (refine CallOK.of_body Try.func23 rfl (by decide) (by rw [Try.ntmps23]; simp) ?_; rw [Try.ntmps23])
  (refine AWp.seqR [0, 1, 2, 3, 4, 5, 6, 8, 11, 13, 18, 19, 20, 21, 29, 30, 33, 50] [] (by decide +kernel) fun K hK => ?_; simp -implicitDefEqProofs only [EV, forall_const, implies_true, Nat.reduceAdd, Nat.reduceEqDiff, Nat.reduceBEq, Nat.reduceLeDiff, Nat.reduceSub, Nat.reduceMul, Int.reduceEq, Int.reduceLT, Int.reduceLE, Int.reduceSub, Int.reduceAdd, Int.reduceToNat, reduceCtorEq, Int.reduceNeg, TF3, TF4, TF9, TF22, TF30, TF47, TF49, TF75, TF77, TF79]; refine hK _ _ ?_; clear hK K)
  (refine AWp.seqR [0, 1, 2, 3, 4, 5, 6, 8, 11, 13, 18, 19, 20, 21, 29, 30, 33, 50] [] (by decide +kernel) fun K hK => ?_; simp -implicitDefEqProofs only [EV, forall_const, implies_true, Nat.reduceAdd, Nat.reduceEqDiff, Nat.reduceBEq, Nat.reduceLeDiff, Nat.reduceSub, Nat.reduceMul, Int.reduceEq, Int.reduceLT, Int.reduceLE, Int.reduceSub, Int.reduceAdd, Int.reduceToNat, reduceCtorEq, Int.reduceNeg, TF3, TF4, TF9, TF22, TF30, TF47, TF49, TF75, TF77, TF79])
  refine ⟨prV p, .inl ⟨_, rfl, ok_PClone p h, rfl⟩, ?_⟩
  simp -implicitDefEqProofs only [EV, forall_const, implies_true, Nat.reduceAdd, Nat.reduceEqDiff, Nat.reduceBEq, Nat.reduceLeDiff, Nat.reduceSub, Nat.reduceMul, Int.reduceEq, Int.reduceLT, Int.reduceLE, Int.reduceSub, Int.reduceAdd, Int.reduceToNat, reduceCtorEq, Int.reduceNeg, TF3, TF4, TF9, TF22, TF30, TF47, TF49, TF75, TF77, TF79]
  (refine hK _ _ ?_; clear hK K)
  have hlen := h.decls.1
  refine AWp.seqK fun K1 hK1 => ?_
  have fin : ∀ sl bx, sle sl [(3, .box 13 0)] → ble bx [(13, .cells ((prC p).map .d ++ [.mp 11])), (11, .map (tabM p))] → K1 sl bx := by
    intro sl bx h1 h2
    refine hK1 _ _ (AWp.weaken h1 h2 ?_)
    clear hK1 K1
    refine AWp.publishMap 11 rfl ?_
    refine AWp.weaken (sl' := [(3, .box 13 0)]) (bx' := [(13, .cells ((tabC p).map .d))]) (by simp [subSl, SV.sub, sle, vle, sget]) (by simp [subBx, BoxC.sub, SV.subL, SV.sub, ble, bget, berase, tabC, prC]) ?_
    refine AWp.freeze 13 rfl rfl ?_
    refine AWp.weaken (sl' := [(3, .dptr (tabC p) 0)]) (bx' := []) (by simp [subSl, SV.sub, sle, vle, sget]; rfl) trivial ?_
    (refine AWp.seqR [0, 1, 2, 3, 4, 5, 6, 8, 11, 13, 18, 19, 20, 21, 29, 30, 33, 50] [] (by decide +kernel) fun K hK => ?_; simp -implicitDefEqProofs only [EV, forall_const, implies_true, Nat.reduceAdd, Nat.reduceEqDiff, Nat.reduceBEq, Nat.reduceLeDiff, Nat.reduceSub, Nat.reduceMul, Int.reduceEq, Int.reduceLT, Int.reduceLE, Int.reduceSub, Int.reduceAdd, Int.reduceToNat, reduceCtorEq, Int.reduceNeg, TF3, TF4, TF9, TF22, TF30, TF47, TF49, TF75, TF77, TF79]; refine hK _ _ ?_; clear hK K)
    exact AWp.ret ⟨_, by rw [Try.results23]; rfl, rfl⟩
  (refine AWp.seqR [0, 1, 2, 3, 4, 5, 6, 8, 11, 13, 18, 19, 20, 21, 29, 30, 33, 50] [] (by decide +kernel) fun K hK => ?_; simp -implicitDefEqProofs only [EV, forall_const, implies_true, Nat.reduceAdd, Nat.reduceEqDiff, Nat.reduceBEq, Nat.reduceLeDiff, Nat.reduceSub, Nat.reduceMul, Int.reduceEq, Int.reduceLT, Int.reduceLE, Int.reduceSub, Int.reduceAdd, Int.reduceToNat, reduceCtorEq, Int.reduceNeg, TF3, TF4, TF9, TF22, TF30, TF47, TF49, TF75, TF77, TF79]; refine hK _ _ ?_; clear hK K)
  refine AWp.block (AWp.loop (X := Nat × List (D × D)) (fun x => [(20, intV x.1), (19, intV p.decls.length), (18, .d (.slice (deR p.decls))), (3, .box 13 0)])
    (fun x => [(13, .cells ((prC p).map .d ++ [.mp 11])), (11, .map x.2)])
    (fun x => x.1 ≤ p.decls.length ∧ (∀ kv, kv ∈ x.2 → KeyAt Try.prog 79 kv.1) ∧ tabF (p.decls.drop x.1) x.1 x.2 = tabM p) (fun x => p.decls.length - x.1) (0, []) ?_ ?_ ?_ ?_)
  · exact ⟨by simp, by simp, rfl⟩
  · exact (by simp [sle, vle, sget])
  · exact (by simp [ble, bget, exC, tyC, foC, paC, siC, deC, prC])
  rintro ⟨j, m⟩ ⟨hj, hm, heq⟩
  simp only at hj hm heq
  by_cases hlt : (j : Int) < (p.decls.length : Int)
  · have hlt' : j < p.decls.length := by omega
    have hy : p.decls[j]? = some p.decls[j] := List.getElem?_eq_getElem hlt'
    have hmem : p.decls[j] ∈ p.decls := List.getElem_mem hlt'
    have hdrop : p.decls.drop j = p.decls[j] :: p.decls.drop (j + 1) := List.drop_eq_getElem_cons hlt'
    generalize p.decls[j] = y at *
    rw [hdrop, tabF] at heq
    (refine AWp.seqR [0, 1, 2, 3, 4, 5, 6, 8, 11, 13, 18, 19, 20, 21, 29, 30, 33, 50] [] (by decide +kernel) fun K hK => ?_; simp -implicitDefEqProofs only [EV, forall_const, implies_true, Nat.reduceAdd, Nat.reduceEqDiff, Nat.reduceBEq, Nat.reduceLeDiff, Nat.reduceSub, Nat.reduceMul, Int.reduceEq, Int.reduceLT, Int.reduceLE, Int.reduceSub, Int.reduceAdd, Int.reduceToNat, reduceCtorEq, Int.reduceNeg, TF3, TF4, TF9, TF22, TF30, TF47, TF49, TF75, TF77, TF79, hlt]; refine hK _ _ ?_; clear hK K)
    refine AWp.seqK fun K2 hK2 => ?_
    refine AWp.condT rfl (AWp.skip (hK2 _ _ ?_))
    clear hK2 K2
    refine AWp.seqK fun K2 hK2 => ?_
    have fin2 : ∀ sl bx m', sle sl [(20, intV j), (19, intV p.decls.length), (18, .d (.slice (deR p.decls))), (3, .box 13 0)] → ble bx [(13, .cells ((prC p).map .d ++ [.mp 11])), (11, .map m')] →
        (∀ kv, kv ∈ m' → KeyAt Try.prog 79 kv.1) → m' = tabStep m j y → K2 sl bx := by
      rintro sl bx m' h1 h2 h3 rfl
      refine hK2 _ _ (AWp.weaken h1 h2 ?_)
      clear hK2 K2 h1 h2
      (refine AWp.lastR [0, 1, 2, 3, 4, 5, 6, 8, 11, 13, 18, 19, 20, 21, 29, 30, 33, 50] [] (by decide +kernel) fun K hK => ?_; simp -implicitDefEqProofs only [EV, forall_const, implies_true, Nat.reduceAdd, Nat.reduceEqDiff, Nat.reduceBEq, Nat.reduceLeDiff, Nat.reduceSub, Nat.reduceMul, Int.reduceEq, Int.reduceLT, Int.reduceLE, Int.reduceSub, Int.reduceAdd, Int.reduceToNat, reduceCtorEq, Int.reduceNeg, TF3, TF4, TF9, TF22, TF30, TF47, TF49, TF75, TF77, TF79])
      refine ⟨by unfold InR; unfold sm at *; omega, ?_⟩
      (refine hK _ _ ?_; clear hK K; try simp only [thenA, blockA, if_true])
      exact ⟨(j + 1, tabStep m j y), ⟨by simp only; omega, h3, heq⟩, by simp only; omega, by simp [sle, vle, sget], (by simp [ble, bget, exC, tyC, foC, paC, siC, deC, prC])⟩
    clear hK2
    refine AWp.block ?_
    (refine AWp.seqR [0, 1, 2, 3, 4, 5, 6, 8, 11, 13, 18, 19, 20, 21, 29, 30, 33, 50] [] (by decide +kernel) fun K hK => ?_; simp -implicitDefEqProofs only [EV, forall_const, implies_true, Nat.reduceAdd, Nat.reduceEqDiff, Nat.reduceBEq, Nat.reduceLeDiff, Nat.reduceSub, Nat.reduceMul, Int.reduceEq, Int.reduceLT, Int.reduceLE, Int.reduceSub, Int.reduceAdd, Int.reduceToNat, reduceCtorEq, Int.reduceNeg, TF3, TF4, TF9, TF22, TF30, TF47, TF49, TF75, TF77, TF79])
    refine ⟨by omega, deC y, deR_get hy, rfl, ?_⟩
    simp -implicitDefEqProofs only [EV, forall_const, implies_true, Nat.reduceAdd, Nat.reduceEqDiff, Nat.reduceBEq, Nat.reduceLeDiff, Nat.reduceSub, Nat.reduceMul, Int.reduceEq, Int.reduceLT, Int.reduceLE, Int.reduceSub, Int.reduceAdd, Int.reduceToNat, reduceCtorEq, Int.reduceNeg, TF3, TF4, TF9, TF22, TF30, TF47, TF49, TF75, TF77, TF79]
    (refine hK _ _ ?_; clear hK K)
    (refine AWp.seqR [0, 1, 2, 3, 4, 5, 6, 8, 11, 13, 18, 19, 20, 21, 29, 30, 33, 50] [] (by decide +kernel) fun K hK => ?_; simp -implicitDefEqProofs only [EV, forall_const, implies_true, Nat.reduceAdd, Nat.reduceEqDiff, Nat.reduceBEq, Nat.reduceLeDiff, Nat.reduceSub, Nat.reduceMul, Int.reduceEq, Int.reduceLT, Int.reduceLE, Int.reduceSub, Int.reduceAdd, Int.reduceToNat, reduceCtorEq, Int.reduceNeg, TF3, TF4, TF9, TF22, TF30, TF47, TF49, TF75, TF77, TF79]; refine hK _ _ ?_; clear hK K)
    have hyn : y.name.length ≤ lim := Nat.le_trans (h.decls.2 y hmem).name (by unfold sm lim; omega)
    refine AWp.seqK fun K3 hK3 => ?_
    have fin3 : ∀ sl bx (mth : Str), sle sl [(4, intV j), (6, .box 6 0), (20, intV j), (19, intV p.decls.length), (18, .d (.slice (deR p.decls))), (3, .box 13 0)] →
        ble bx [(13, .cells ((prC p).map .d ++ [.mp 11])), (11, .map m), (6, .cells [.d (.str y.name), .d (.str mth)])] → keyOfD y = some (tkey y.name mth) → mth.length ≤ lim → K3 sl bx := by
      intro sl bx mth h1 h2 hkey hml
      refine hK3 _ _ (AWp.weaken h1 h2 ?_)
      clear hK3 K3 h1 h2
      have hk79 := key_two two79 y.name mth hyn hml
      (refine AWp.seqD [0, 1, 2, 3, 4, 5, 6, 8, 11, 13, 18, 19, 20, 21, 29, 30, 33, 50] [] 11 mixed (by decide +kernel) (by decide +kernel) fun K hK => ?_; simp -implicitDefEqProofs only [EV, forall_const, implies_true, Nat.reduceAdd, Nat.reduceEqDiff, Nat.reduceBEq, Nat.reduceLeDiff, Nat.reduceSub, Nat.reduceMul, Int.reduceEq, Int.reduceLT, Int.reduceLE, Int.reduceSub, Int.reduceAdd, Int.reduceToNat, reduceCtorEq, Int.reduceNeg, TF3, TF4, TF9, TF22, TF30, TF47, TF49, TF75, TF77, TF79])
      refine ⟨hm, hk79, ?_⟩
      (refine hK _ _ ?_; clear hK K)
      by_cases hs : (kfind (D.agg [D.str y.name, D.str mth]).lits m 0).isSome = true
      · have ht : tabStep m j y = m := by simp only [tabStep, hkey]; exact if_pos hs
        rw [hs]
        (refine AWp.seqR [0, 1, 2, 3, 4, 5, 6, 8, 11, 13, 18, 19, 20, 21, 29, 30, 33, 50] [] (by decide +kernel) fun K hK => ?_; simp -implicitDefEqProofs only [EV, forall_const, implies_true, Nat.reduceAdd, Nat.reduceEqDiff, Nat.reduceBEq, Nat.reduceLeDiff, Nat.reduceSub, Nat.reduceMul, Int.reduceEq, Int.reduceLT, Int.reduceLE, Int.reduceSub, Int.reduceAdd, Int.reduceToNat, reduceCtorEq, Int.reduceNeg, TF3, TF4, TF9, TF22, TF30, TF47, TF49, TF75, TF77, TF79]; refine hK _ _ ?_; clear hK K)
        refine AWp.condF rfl (AWp.skip ?_)
        simp only [thenA, blockA, if_true]
        exact fin2 _ _ m (by simp [sle, vle, sget]) (by simp [ble, bget, exC, tyC, foC, paC, siC, deC, prC]) hm ht.symm
      · have ht : tabStep m j y = kput (tkey y.name mth) (.int .i64 j) m := by simp only [tabStep, hkey]; exact if_neg hs
        rw [Bool.not_eq_true] at hs
        rw [hs]
        (refine AWp.seqR [0, 1, 2, 3, 4, 5, 6, 8, 11, 13, 18, 19, 20, 21, 29, 30, 33, 50] [] (by decide +kernel) fun K hK => ?_; simp -implicitDefEqProofs only [EV, forall_const, implies_true, Nat.reduceAdd, Nat.reduceEqDiff, Nat.reduceBEq, Nat.reduceLeDiff, Nat.reduceSub, Nat.reduceMul, Int.reduceEq, Int.reduceLT, Int.reduceLE, Int.reduceSub, Int.reduceAdd, Int.reduceToNat, reduceCtorEq, Int.reduceNeg, TF3, TF4, TF9, TF22, TF30, TF47, TF49, TF75, TF77, TF79]; refine hK _ _ ?_; clear hK K)
        refine AWp.condT rfl ?_
        (refine AWp.lastD [0, 1, 2, 3, 4, 5, 6, 8, 11, 13, 18, 19, 20, 21, 29, 30, 33, 50] [] 6 mixed (by decide +kernel) (by decide +kernel) fun K hK => ?_; simp -implicitDefEqProofs only [EV, forall_const, implies_true, Nat.reduceAdd, Nat.reduceEqDiff, Nat.reduceBEq, Nat.reduceLeDiff, Nat.reduceSub, Nat.reduceMul, Int.reduceEq, Int.reduceLT, Int.reduceLE, Int.reduceSub, Int.reduceAdd, Int.reduceToNat, reduceCtorEq, Int.reduceNeg, TF3, TF4, TF9, TF22, TF30, TF47, TF49, TF75, TF77, TF79])
        refine ⟨hm, hk79, ?_⟩
        (refine hK _ _ ?_; clear hK K; try simp only [thenA, blockA, if_true])
        exact fin2 _ _ _ (by simp [sle, vle, sget]) (by simp [ble, bget, prC]; rfl) (kput_keys hm hk79) ht.symm
    (refine AWp.seqR [0, 1, 2, 3, 4, 5, 6, 8, 11, 13, 18, 19, 20, 21, 29, 30, 33, 50] [] (by decide +kernel) fun K hK => ?_; simp -implicitDefEqProofs only [EV, forall_const, implies_true, Nat.reduceAdd, Nat.reduceEqDiff, Nat.reduceBEq, Nat.reduceLeDiff, Nat.reduceSub, Nat.reduceMul, Int.reduceEq, Int.reduceLT, Int.reduceLE, Int.reduceSub, Int.reduceAdd, Int.reduceToNat, reduceCtorEq, Int.reduceNeg, TF3, TF4, TF9, TF22, TF30, TF47, TF49, TF75, TF77, TF79]; refine hK _ _ ?_; clear hK K)
    refine AWp.block ?_
    refine AWp.seqK fun K4 hK4 => ?_
    by_cases hk1 : y.kind = 1
    · (refine AWp.seqR [0, 1, 2, 3, 4, 5, 6, 8, 11, 13, 18, 19, 20, 21, 29, 30, 33, 50] [] (by decide +kernel) fun K hK => ?_; simp -implicitDefEqProofs only [EV, forall_const, implies_true, Nat.reduceAdd, Nat.reduceEqDiff, Nat.reduceBEq, Nat.reduceLeDiff, Nat.reduceSub, Nat.reduceMul, Int.reduceEq, Int.reduceLT, Int.reduceLE, Int.reduceSub, Int.reduceAdd, Int.reduceToNat, reduceCtorEq, Int.reduceNeg, TF3, TF4, TF9, TF22, TF30, TF47, TF49, TF75, TF77, TF79, hk1]; refine hK _ _ ?_; clear hK K)
      refine AWp.condT rfl (AWp.skip (hK4 _ _ ?_))
      clear hK4 K4
      refine AWp.condT rfl (AWp.skip ?_)
      simp only [thenA, blockA, if_true]
      exact fin3 _ _ [] (by simp [sle, vle, sget]) (by simp [ble, bget, exC, tyC, foC, paC, siC, deC, prC]) (by simp [keyOfD, hk1]) (by simp)
    · by_cases hk2 : y.kind = 2
      · (refine AWp.seqR [0, 1, 2, 3, 4, 5, 6, 8, 11, 13, 18, 19, 20, 21, 29, 30, 33, 50] [] (by decide +kernel) fun K hK => ?_; simp -implicitDefEqProofs only [EV, forall_const, implies_true, Nat.reduceAdd, Nat.reduceEqDiff, Nat.reduceBEq, Nat.reduceLeDiff, Nat.reduceSub, Nat.reduceMul, Int.reduceEq, Int.reduceLT, Int.reduceLE, Int.reduceSub, Int.reduceAdd, Int.reduceToNat, reduceCtorEq, Int.reduceNeg, TF3, TF4, TF9, TF22, TF30, TF47, TF49, TF75, TF77, TF79, hk1]; refine hK _ _ ?_; clear hK K)
        refine AWp.condF rfl ?_
        (refine AWp.lastR [0, 1, 2, 3, 4, 5, 6, 8, 11, 13, 18, 19, 20, 21, 29, 30, 33, 50] [] (by decide +kernel) fun K hK => ?_; simp -implicitDefEqProofs only [EV, forall_const, implies_true, Nat.reduceAdd, Nat.reduceEqDiff, Nat.reduceBEq, Nat.reduceLeDiff, Nat.reduceSub, Nat.reduceMul, Int.reduceEq, Int.reduceLT, Int.reduceLE, Int.reduceSub, Int.reduceAdd, Int.reduceToNat, reduceCtorEq, Int.reduceNeg, TF3, TF4, TF9, TF22, TF30, TF47, TF49, TF75, TF77, TF79, hk2])
        (refine hK _ _ ?_; clear hK K; try simp only [thenA, blockA, if_true])
        refine hK4 _ _ ?_
        clear hK4 K4
        refine AWp.condT rfl (AWp.skip ?_)
        simp only [thenA, blockA, if_true]
        exact fin3 _ _ [] (by simp [sle, vle, sget]) (by simp [ble, bget, exC, tyC, foC, paC, siC, deC, prC]) (by simp [keyOfD, hk2]) (by simp)
      · (refine AWp.seqR [0, 1, 2, 3, 4, 5, 6, 8, 11, 13, 18, 19, 20, 21, 29, 30, 33, 50] [] (by decide +kernel) fun K hK => ?_; simp -implicitDefEqProofs only [EV, forall_const, implies_true, Nat.reduceAdd, Nat.reduceEqDiff, Nat.reduceBEq, Nat.reduceLeDiff, Nat.reduceSub, Nat.reduceMul, Int.reduceEq, Int.reduceLT, Int.reduceLE, Int.reduceSub, Int.reduceAdd, Int.reduceToNat, reduceCtorEq, Int.reduceNeg, TF3, TF4, TF9, TF22, TF30, TF47, TF49, TF75, TF77, TF79, hk1]; refine hK _ _ ?_; clear hK K)
        refine AWp.condF rfl ?_
        (refine AWp.lastR [0, 1, 2, 3, 4, 5, 6, 8, 11, 13, 18, 19, 20, 21, 29, 30, 33, 50] [] (by decide +kernel) fun K hK => ?_; simp -implicitDefEqProofs only [EV, forall_const, implies_true, Nat.reduceAdd, Nat.reduceEqDiff, Nat.reduceBEq, Nat.reduceLeDiff, Nat.reduceSub, Nat.reduceMul, Int.reduceEq, Int.reduceLT, Int.reduceLE, Int.reduceSub, Int.reduceAdd, Int.reduceToNat, reduceCtorEq, Int.reduceNeg, TF3, TF4, TF9, TF22, TF30, TF47, TF49, TF75, TF77, TF79, hk2])
        (refine hK _ _ ?_; clear hK K; try simp only [thenA, blockA, if_true])
        refine hK4 _ _ ?_
        clear hK4 K4
        refine AWp.condF rfl ?_
        by_cases hk3 : y.kind = 3
        · (refine AWp.seqR [0, 1, 2, 3, 4, 5, 6, 8, 11, 13, 18, 19, 20, 21, 29, 30, 33, 50] [] (by decide +kernel) fun K hK => ?_; simp -implicitDefEqProofs only [EV, forall_const, implies_true, Nat.reduceAdd, Nat.reduceEqDiff, Nat.reduceBEq, Nat.reduceLeDiff, Nat.reduceSub, Nat.reduceMul, Int.reduceEq, Int.reduceLT, Int.reduceLE, Int.reduceSub, Int.reduceAdd, Int.reduceToNat, reduceCtorEq, Int.reduceNeg, TF3, TF4, TF9, TF22, TF30, TF47, TF49, TF75, TF77, TF79, hk3]; refine hK _ _ ?_; clear hK K)
          refine AWp.condT rfl ?_
          have hsl := (h.decls.2 y hmem).sig.name
          have hc46 : (ByteArray.mk #[46]).size ≤ lim := by decide
          (refine AWp.lastR [0, 1, 2, 3, 4, 5, 6, 8, 11, 13, 18, 19, 20, 21, 29, 30, 33, 50] [] (by decide +kernel) fun K hK => ?_; simp -implicitDefEqProofs only [EV, forall_const, implies_true, Nat.reduceAdd, Nat.reduceEqDiff, Nat.reduceBEq, Nat.reduceLeDiff, Nat.reduceSub, Nat.reduceMul, Int.reduceEq, Int.reduceLT, Int.reduceLE, Int.reduceSub, Int.reduceAdd, Int.reduceToNat, reduceCtorEq, Int.reduceNeg, TF3, TF4, TF9, TF22, TF30, TF47, TF49, TF75, TF77, TF79, hc46])
          refine ⟨by unfold sm lim at *; first | omega | (simp; omega), ?_⟩
          (refine hK _ _ ?_; clear hK K; try simp only [thenA, blockA, if_true])
          exact fin3 _ _ (46 :: y.sig.name) (by simp [sle, vle, sget]) (by simp [ble, bget, exC, tyC, foC, paC, siC, deC, prC]) (by simp [keyOfD, hk3]) (by simp only [List.length_cons]; unfold sm lim at *; omega)
        · (refine AWp.seqR [0, 1, 2, 3, 4, 5, 6, 8, 11, 13, 18, 19, 20, 21, 29, 30, 33, 50] [] (by decide +kernel) fun K hK => ?_; simp -implicitDefEqProofs only [EV, forall_const, implies_true, Nat.reduceAdd, Nat.reduceEqDiff, Nat.reduceBEq, Nat.reduceLeDiff, Nat.reduceSub, Nat.reduceMul, Int.reduceEq, Int.reduceLT, Int.reduceLE, Int.reduceSub, Int.reduceAdd, Int.reduceToNat, reduceCtorEq, Int.reduceNeg, TF3, TF4, TF9, TF22, TF30, TF47, TF49, TF75, TF77, TF79, hk3]; refine hK _ _ ?_; clear hK K)
          refine AWp.condF rfl (AWp.exit ?_)
          simp only [thenA, blockA]
          rw [if_neg (by decide)]
          exact fin2 _ _ m (by simp [sle, vle, sget]) (by simp [ble, bget, exC, tyC, foC, paC, siC, deC, prC]) hm (by simp [tabStep, keyOfD, hk1, hk2, hk3])
  · (refine AWp.seqR [0, 1, 2, 3, 4, 5, 6, 8, 11, 13, 18, 19, 20, 21, 29, 30, 33, 50] [] (by decide +kernel) fun K hK => ?_; simp -implicitDefEqProofs only [EV, forall_const, implies_true, Nat.reduceAdd, Nat.reduceEqDiff, Nat.reduceBEq, Nat.reduceLeDiff, Nat.reduceSub, Nat.reduceMul, Int.reduceEq, Int.reduceLT, Int.reduceLE, Int.reduceSub, Int.reduceAdd, Int.reduceToNat, reduceCtorEq, Int.reduceNeg, TF3, TF4, TF9, TF22, TF30, TF47, TF49, TF75, TF77, TF79, hlt]; refine hK _ _ ?_; clear hK K)
    refine AWp.seqK fun K2 hK2 => ?_
    refine AWp.condF rfl (AWp.exit ?_)
    simp only [thenA, blockA, if_true]
    rw [List.drop_eq_nil_of_le (by omega), tabF] at heq
    exact fin _ _ (by simp [sle, vle, sget]) (by rw [← heq]; exact (by simp [ble, bget, exC, tyC, foC, paC, siC, deC, prC]))
end Go.Abs
