/- slices.Grow of nil, slices.Concat[Formal] of two, bind.Join, table.Formals -/
import Derived.Test.YtenheogknlmohaaGreatDoorZShelf
import Derived.Test.YtenheogknlmohaaGreatDoorZS14
import Derived.Test.YtenheogknlmohaaGreatDoorZS10
namespace Go.Abs
set_option linter.unusedSimpArgs false
set_option linter.unusedVariables false
open Go Go.Proofs
set_option maxRecDepth 100000
set_option maxHeartbeats 1000000

/-- a call that hands back one slice of its own, its arguments taken as they are -/
def one1 (q1 k1 : Nat) (q : Nat) : Nat := if q = q1 then k1 else q
theorem opB_call1 {P : Program} {sl : SL} {bx : Boxes} {f : FuncId} {fo : Operand} {args : List Operand} {tys : List TypeId} {dst : Option Nat} {caps args' : List SV} {r : SV} {q1 sz1 : Nat} {rows1 : List (List D)} (k1 : Nat)
    (hf : opnd sl fo = .clo f caps) (hargs : args.map (opnd sl) ++ caps = args') (hcl : SV.closedAll args' = true) (hc : CallB P f args' [] r [(q1, .rows sz1 rows1)]) (hr : r.only [q1] = true)
    (h1 : k1 ≤ 999999) (f1 : hasBx k1 bx = false) :
    OpB P sl bx dst (.call ⟨.value fo, args.toArray, tys.toArray⟩) (r.ren (one1 q1 k1)) ((k1, .rows sz1 rows1) :: bx) [k1] := by
  subst hargs
  intro o ho _ C S w β a hi ha
  have hf1 := ha fo (mo ho (by simp [Op.operands, Call.operands]))
  rw [hf] at hf1
  generalize hfv : a.eval fo = v at hf1
  cases hf1 with
  | clo _ _ cs g1 g2 =>
    have hall : RepL S w β (args.map (opnd sl) ++ caps) (args.map a.eval ++ cs) := (RepL.evals _ fun x hx => ha x (mo ho (by simp [Op.operands, Call.operands]; exact .inr hx))).append ⟨g1, g2⟩
    have hin : Inv ⟨w, S, fun _ => False, fun _ _ => False, C.G⟩ S w β [] := hi.begin hi.Slt (fun _ h => h)
    have hcall := hc.2 ⟨w, S, fun _ => False, fun _ _ => False, C.G⟩ β _ hin hall
    refine Or.inl ?_
    unfold Oper.wp
    rw [run_enter hc.1 ho hfv, Oper.upon_enter]
    have hargsEq : (args.toArray.map a.eval) ++ (⟨cs⟩ : Array Value) = ⟨args.map a.eval ++ cs⟩ := by apply Array.ext'; simp
    rw [hargsEq]
    refine hcall.mono ?_
    rintro e w' ⟨v, S', β', rfl, hI, hv⟩
    have hsz : w.heap.size ≤ w'.heap.size := hI.size
    have hSn : ∀ b, S' b → S b ∨ w.heap.size ≤ b := fun b hb => by
      rcases hI.Snew b hb with h | h | h
      · exact .inl h
      · exact h.elim
      · exact .inr h
    have e : SExt S w S' w' := ⟨hI.S0sub, fun b hb => hI.kept b (hi.Slt b hb) id⟩
    have u1 : upd β k1 (β' q1) k1 = β' q1 := upd_same ..
    have u3 : ∀ j, j ≠ k1 → upd β k1 (β' q1) j = β j := fun j a => by rw [upd_ne a]
    have m1 : (q1, BoxC.rows sz1 rows1) ∈ [(q1, BoxC.rows sz1 rows1)] := by simp
    have hnew : ∀ b, (β' q1).base = some b → ¬ S' b ∧ b < w'.heap.size ∧ w.heap.size ≤ b := fun b hb => by
      obtain ⟨p1, p2, p3⟩ := hI.priv q1 _ m1 b hb
      exact ⟨p1, p2, p3.resolve_left id⟩
    have hold : ∀ k c, (k, c) ∈ bx → k ≠ k1 ∧ (∀ j, c.has j = true → j ≠ k1) := fun k c hm => by
      obtain ⟨a1, a2⟩ := hasBx_mem f1 k c hm
      exact ⟨a1, fun j hj he => by subst he; rw [a2] at hj; simp at hj⟩
    have hcase : ∀ k c, (k, c) ∈ (k1, BoxC.rows sz1 rows1) :: bx → (k = k1 ∧ c = .rows sz1 rows1) ∨ (k, c) ∈ bx := fun k c hm => by
      simp only [List.mem_cons, Prod.mk.injEq] at hm
      exact hm
    refine ⟨v, S', upd β k1 (β' q1), rfl, ?_, e, hv.ren fun k hkk => ?_, fun j hj => ?_⟩
    · refine hi.step e hSn hI.Slt (fun b hb _ => hI.kept b hb id) hI.os hI.tape hI.output hsz ?_ ?_ (fun j hj => u3 j (by omega)) ?_
      · intro k c hm
        rcases hcase k c hm with ⟨rfl, rfl⟩ | hm
        · rw [u1]
          exact ⟨BoxOK.ext (c := .rows sz1 rows1) (hI.box q1 _ m1) (SExt.refl _ _) (fun _ _ => rfl) (by simp [BoxC.has]), fun b hb => ⟨(hnew b hb).1, (hnew b hb).2.1, .inl (hnew b hb).2.2⟩⟩
        · obtain ⟨a1, a3⟩ := hold k c hm
          rw [u3 k a1]
          refine ⟨(hi.box k c hm).ext e (fun b hb => hI.kept b (hi.priv k c hm b hb).2.1 id) (fun j hj => u3 j (a3 j hj)), fun b hb => ⟨fun hs => ?_, Nat.lt_of_lt_of_le (hi.priv k c hm b hb).2.1 hsz, .inr ⟨k, c, hm, hb⟩⟩⟩
          rcases hSn b hs with h | h
          · exact (hi.priv k c hm b hb).1 h
          · have := (hi.priv k c hm b hb).2.1; omega
      · intro k c k' c' hm hm' b hb hb'
        have low : ∀ k c, (k, c) ∈ bx → (upd β k1 (β' q1) k).base = some b → b < w.heap.size := fun k c hm hb => by
          rw [u3 k (hold k c hm).1] at hb
          exact (hi.priv k c hm b hb).2.1
        rcases hcase k c hm with ⟨rfl, rfl⟩ | hm
        · rw [u1] at hb
          rcases hcase k' c' hm' with ⟨rfl, rfl⟩ | hm'
          · exact ⟨rfl, rfl⟩
          · have := low _ _ hm' hb'; have := (hnew b hb).2.2; omega
        · have hlt := low _ _ hm hb
          rcases hcase k' c' hm' with ⟨rfl, rfl⟩ | hm'
          · rw [u1] at hb'; have := (hnew b hb').2.2; omega
          · rw [u3 k (hold k c hm).1] at hb
            rw [u3 k' (hold k' c' hm').1] at hb'
            exact hi.inj k c k' c' hm hm' b hb hb'
      · intro k Y st hm
        rcases hcase k _ hm with ⟨_, h⟩ | hm
        · cases h
        · exact hm
    · have := SV.only_has hr hkk
      simp only [List.mem_cons, List.not_mem_nil, or_false] at this
      subst this
      simp only [one1, if_true]; exact u1
    · simp only [List.mem_cons, List.not_mem_nil, or_false] at hj
      exact u3 j hj

theorem grow_calls {P : Program} {ρ : Go.Shelf.Ren} (L : Go.Proofs.Lays8.n4 P ρ) (sz : Nat) (hsz : 0 < sz) (hinfo : ((P.info? (ρ.t 25)).any fun i => i.size == sz && decide (i.bytes ≤ 1000) && i.zero.any fun z => z.cells.size == sz) = true)
    (hE : Enters P (ρ.f 4)) (n : Nat) (hn : n ≤ 100000000000) : CallB P (ρ.f 4) [.d .nil, intV n] [] (.acc 1) [(1, .rows sz [])] := by
  refine ⟨hE, fun C β vs hi hv => ?_⟩
  obtain ⟨v0, hv0, hr0⟩ := hv.get (j := 0) (c := .d .nil) rfl
  obtain ⟨v1, hv1, hr1⟩ := hv.get (j := 1) (c := intV n) rfl
  have hvs : vs = [.slice none 0 0, .int .i64 n] := by
    have hl := hv.1
    match vs, hl with
    | [u, v], _ =>
      simp only [List.getElem?_cons_zero, List.getElem?_cons_succ, Option.some.injEq] at hv0 hv1
      subst hv0; subst hv1
      rw [hr1.inv_int]
      have := hr0.inv_d
      cases this; rfl
  subst hvs
  by_cases h0 : n = 0
  · subst h0
    refine (Any8.slices_Grow_room L none 0 0 0 C.w0 (Nat.le_refl _) (by omega) (by omega) (by omega)).mono ?_
    rintro e w' ⟨rfl, rfl⟩
    obtain ⟨h1, h2⟩ := hi.setNew (k := 1) (w' := C.w0) (c := .rows sz []) { base := none, sz := sz } (by decide) (by simp) (fun _ _ _ => rfl) rfl rfl rfl (Nat.le_refl _) (fun _ => boxOK_nil)
    refine ⟨_, C.S0, _, rfl, by simpa [berase, bpurge] using h1, ?_⟩
    have := RepV.acc (S := C.S0) (w := C.w0) (β := upd β 1 { base := none, sz := sz }) 1
    rw [upd_same] at this
    simpa using this
  · generalize hoi : P.info? (ρ.t 25) = oi at hinfo
    cases oi with
    | none => simp at hinfo
    | some i0 =>
      simp only [Option.any_some, Bool.and_eq_true, beq_iff_eq, decide_eq_true_eq] at hinfo
      obtain ⟨⟨g1, g2⟩, g3⟩ := hinfo
      generalize hoz : i0.zero = oz at g3
      cases oz with
      | none => simp at g3
      | some z =>
        simp only [Option.any_some, beq_iff_eq] at g3
        refine (Any8.slices_Grow_grow L i0 z hoi hoz (by omega) none 0 0 n [] C.w0 (Nat.le_refl _) (by omega) (by
          have : (0 + n) * i0.bytes ≤ (0 + n) * 1000 := Nat.mul_le_mul_left _ g2
          omega) (by omega) (by simp) (fun _ => rfl) (by simp)).mono ?_
        rintro e w' ⟨rfl, rfl⟩
        have hge := grownCap_ge C.w0 (0 + n) 0 (ρ.t 25)
        generalize grownCap C.w0 (0 + n) 0 (ρ.t 25) = G at hge
        obtain ⟨h1, h2⟩ := hi.setNew (k := 1) (w' := C.w0.drew.alloc (.cells (([] : List Value).toArray ++ Builtin.zeroCells z.cells (0 + n - 0) ++ Builtin.zeroCells z.cells (G - (0 + n))) (ρ.t 25))) (c := .rows sz []) { base := some C.w0.heap.size, len := 0, cap := G, sz := sz } (by decide)
          (by intro b hb; cases hb
              exact ⟨fun h => by have := hi.Slt _ h; omega, by simp [-World.alloc_eq, -World.drew_eq, World.alloc, World.drew], .inl (Nat.le_refl _)⟩)
          (fun b hb _ => RowKit.Below.heap_alloc C.w0.drew _ b hb) rfl rfl rfl (by simp [-World.alloc_eq, -World.drew_eq, World.alloc, World.drew])
          (fun _ => by
            refine ⟨rfl, rfl, by simp, by simp, by simp, by simp, ?_⟩
            refine ⟨ρ.t 25, (([] : List Value).toArray ++ Builtin.zeroCells z.cells (0 + n - 0) ++ Builtin.zeroCells z.cells (G - (0 + n))).toList, by simp [-World.alloc_eq, -World.drew_eq, World.alloc, World.drew], ?_, by simp⟩
            simp only [Array.toList_append, List.length_append, Array.length_toList, zeroCells_size, g3]
            simp only [List.length_nil, Nat.zero_add, ← Nat.add_mul]
            exact Nat.mul_le_mul_right _ (by omega))
        refine ⟨_, C.S0, _, rfl, by simpa [berase, bpurge] using h1, ?_⟩
        have := RepV.acc (S := C.S0) (w := C.w0.drew.alloc (.cells (([] : List Value).toArray ++ Builtin.zeroCells z.cells (0 + n - 0) ++ Builtin.zeroCells z.cells (G - (0 + n))) (ρ.t 25))) (β := upd β 1 { base := some C.w0.heap.size, len := 0, cap := G, sz := sz }) 1
        rw [upd_same] at this
        simpa using this
theorem ok_GrowF (n : Nat) (hn : n ≤ 100000000000) : CallB Tryz.prog 217 [.d .nil, intV n] [] (.acc 1) [(1, .rows 5 [])] :=
  grow_calls Tryz.growF 5 (by decide) (by kernel_rfl) (Enters.of Tryz.func217 rfl (by decide)) n hn
theorem sum_take {α : Type} (ls : List (List α)) (j : Nat) : ((ls.take j).map List.length).sum ≤ (ls.map List.length).sum := by
  induction ls generalizing j with
  | nil => simp
  | cons a l ih =>
    cases j with
    | zero => simp
    | succ j => simp only [List.take_succ_cons, List.map_cons, List.sum_cons]; have := ih j; omega
def fosR (ls : List (List Formal)) : List (List D) := ls.map fun l => [.slice (foR l)]
theorem fosR_get {ls : List (List Formal)} {j : Nat} {l : List Formal} (h : ls[j]? = some l) : (fosR ls)[j]? = some [.slice (foR l)] := by simp [fosR, h]
theorem ok_ConcatF (ls : List (List Formal)) (hl : ls.length ≤ sm) (hn : (ls.map List.length).sum ≤ 2 * sm) : CallOK Tryz.prog 186 [.d (.slice (fosR ls))] (.d (.slice (foR ls.flatten))) := by
  (refine CallOK.of_body Tryz.func186 rfl (by decide) (by rw [Tryz.ntmps186]; simp) ?_; rw [Tryz.ntmps186])
  (refine AWp.seqR [0, 2, 3, 5, 6, 8, 9, 10, 11, 12, 20, 24, 25, 26, 27, 28] [] (by decide +kernel) fun K hK => ?_; simp -implicitDefEqProofs only [EV, Nat.reduceEqDiff, reduceCtorEq, ]; refine hK _ _ ?_; clear hK K)
  (refine AWp.seqR [0, 2, 3, 5, 6, 8, 9, 10, 11, 12, 20, 24, 25, 26, 27, 28] [] (by decide +kernel) fun K hK => ?_; simp -implicitDefEqProofs only [EV, Nat.reduceEqDiff, reduceCtorEq, ]; refine hK _ _ ?_; clear hK K)
  refine AWp.seqK fun K1 hK1 => ?_
  (refine AWp.seqR [0, 2, 3, 5, 6, 8, 9, 10, 11, 12, 20, 24, 25, 26, 27, 28] [] (by decide +kernel) fun K hK => ?_; simp -implicitDefEqProofs only [EV, Nat.reduceEqDiff, reduceCtorEq, TF262]; refine hK _ _ ?_; clear hK K)
  refine AWp.block (AWp.forIdx ls (X := Unit) (fun j _ => [(0, .d (.slice (fosR ls))), (3, intV (((ls.take j).map List.length).sum : Nat)), (9, .d (.slice (fosR ls))), (10, intV ls.length), (11, intV j)]) (fun _ _ => [])
    (fun j _ => True) () trivial (by simp [sle, vle, sget, fosR]) (by simp [ble, ]) ?_ ?_)
  · intro _ _
    rw [List.take_length]
    (refine AWp.seqR [0, 2, 3, 5, 6, 8, 9, 10, 11, 12, 20, 24, 25, 26, 27, 28] [] (by decide +kernel) fun K hK => ?_; simp -implicitDefEqProofs only [EV, Nat.reduceEqDiff, reduceCtorEq, Int.lt_irrefl]; refine hK _ _ ?_; clear hK K)
    refine AWp.stop rfl ?_
    simp only [thenA, blockA, if_true]
    refine hK1 _ _ ?_
    clear hK1 K1
    (refine AWp.seqR [0, 2, 3, 5, 6, 8, 9, 10, 11, 12, 20, 24, 25, 26, 27, 28] [800024] (by decide +kernel) fun K hK => ?_; simp -implicitDefEqProofs only [EV, Nat.reduceAdd, Nat.reduceEqDiff, Nat.reduceBEq, reduceCtorEq, ]; refine ⟨_, _, _, opB_call1 24 rfl rfl rfl (ok_GrowF _ (by unfold sm at hn; omega)) rfl (by decide) rfl, ?_⟩; simp only [SV.ren, one1, if_true]; (try simp -implicitDefEqProofs only [EV, Nat.reduceEqDiff, reduceCtorEq, ]); refine hK _ _ ?_; clear hK K)
    refine AWp.seqK fun K1 hK1 => ?_
    (refine AWp.seqR [0, 2, 3, 5, 6, 8, 9, 10, 11, 12, 20, 24, 25, 26, 27, 28] [] (by decide +kernel) fun K hK => ?_; simp -implicitDefEqProofs only [EV, Nat.reduceEqDiff, reduceCtorEq, TF262]; refine hK _ _ ?_; clear hK K)
    refine AWp.block (AWp.forIdx ls (X := Unit) (fun j _ => [(6, .acc 24), (25, .d (.slice (fosR ls))), (26, intV ls.length), (27, intV j)]) (fun j _ => [(24, .rows 5 (foR (ls.take j).flatten))])
      (fun j _ => True) () trivial (by simp [sle, vle, sget, fosR]) (by simp [ble, bget, foR]) ?_ ?_)
    · intro _ _
      rw [List.take_length]
      (refine AWp.seqR [0, 2, 3, 5, 6, 8, 9, 10, 11, 12, 20, 24, 25, 26, 27, 28] [] (by decide +kernel) fun K hK => ?_; simp -implicitDefEqProofs only [EV, Nat.reduceEqDiff, reduceCtorEq, Int.lt_irrefl]; refine hK _ _ ?_; clear hK K)
      refine AWp.stop rfl ?_
      simp only [thenA, blockA, if_true]
      refine hK1 _ _ ?_
      clear hK1 K1
      (refine AWp.seqR [0, 2, 3, 5, 6, 8, 9, 10, 11, 12, 20, 24, 25, 26, 27, 28] [] (by decide +kernel) fun K hK => ?_; simp -implicitDefEqProofs only [EV, Nat.reduceEqDiff, reduceCtorEq, ]; refine hK _ _ ?_; clear hK K)
      exact AWp.ret ⟨_, by rw [Tryz.results186]; rfl, rfl⟩
    · intro j _ d hd hmem hdrop htake hlt hI
      have htk := sum_take ls (j + 1)
      rw [htake, List.map_append, List.sum_append] at htk
      simp only [List.map_cons, List.map_nil, List.sum_cons, List.sum_nil, Nat.add_zero] at htk
      rw [htake, List.flatten_append, List.flatten_cons, List.flatten_nil, List.append_nil]
      (refine AWp.seqR [0, 2, 3, 5, 6, 8, 9, 10, 11, 12, 20, 24, 25, 26, 27, 28] [] (by decide +kernel) fun K hK => ?_; simp -implicitDefEqProofs only [EV, Nat.reduceEqDiff, reduceCtorEq, hlt]; refine hK _ _ ?_; clear hK K)
      refine AWp.goOn rfl ?_
      refine AWp.seqK fun K2 hK2 => ?_
      refine AWp.block ?_
      (refine AWp.seqR [0, 2, 3, 5, 6, 8, 9, 10, 11, 12, 20, 24, 25, 26, 27, 28] [] (by decide +kernel) fun K hK => ?_; simp -implicitDefEqProofs only [EV, Nat.reduceEqDiff, reduceCtorEq, TF46, TF262]; refine ⟨by omega, _, fosR_get hd, rfl, ?_⟩; (try simp -implicitDefEqProofs only [EV, Nat.reduceEqDiff, reduceCtorEq, ]); refine hK _ _ ?_; clear hK K)
      (refine AWp.lastR [0, 2, 3, 5, 6, 8, 9, 10, 11, 12, 20, 24, 25, 26, 27, 28] [] (by decide +kernel) fun K hK => ?_; simp -implicitDefEqProofs only [EV, Nat.reduceAdd, Nat.reduceEqDiff, Nat.reduceBEq, Nat.reduceLeDiff, reduceCtorEq, TF46, TF84]; refine ⟨fun row hr => by obtain ⟨x, _, rfl⟩ := List.mem_map.1 hr; rfl, by rw [List.length_flatten]; unfold lim sm at *; omega, ?_⟩; (try simp -implicitDefEqProofs only [EV, forall_const, implies_true, Nat.reduceAdd, Nat.reduceEqDiff, Nat.reduceBEq, Nat.reduceLeDiff, Nat.reduceSub, Nat.reduceMul, Int.reduceEq, Int.reduceLT, Int.reduceLE, Int.reduceSub, Int.reduceAdd, Int.reduceToNat, reduceCtorEq, Int.reduceNeg, TF3, TF4, TF9, TF46, TF84, TF262]); refine hK _ _ ?_; clear hK K; try simp only [thenA, blockA])
      refine hK2 _ _ ?_
      clear hK2 K2
      (refine AWp.lastR [0, 2, 3, 5, 6, 8, 9, 10, 11, 12, 20, 24, 25, 26, 27, 28] [] (by decide +kernel) fun K hK => ?_; simp -implicitDefEqProofs only [EV, Nat.reduceEqDiff, reduceCtorEq, ]; refine ⟨by first | (unfold InR; omega) | (simp only [InR, sm] at *; omega), ?_⟩; (try simp -implicitDefEqProofs only [EV, forall_const, implies_true, Nat.reduceAdd, Nat.reduceEqDiff, Nat.reduceBEq, Nat.reduceLeDiff, Nat.reduceSub, Nat.reduceMul, Int.reduceEq, Int.reduceLT, Int.reduceLE, Int.reduceSub, Int.reduceAdd, Int.reduceToNat, reduceCtorEq, Int.reduceNeg, TF3, TF4, TF9, TF46, TF84, TF262]); refine hK _ _ ?_; clear hK K; try simp only [thenA, ])
      exact ⟨(), trivial, (by simp [sle, vle, sget]), by simp [ble, bget, foR]⟩
  · intro j _ d hd hmem hdrop htake hlt hI
    have htk := sum_take ls (j + 1)
    rw [htake, List.map_append, List.sum_append] at htk
    simp only [List.map_cons, List.map_nil, List.sum_cons, List.sum_nil, Nat.add_zero] at htk
    have hnn : ¬ (((((ls.take j).map List.length).sum : Nat) : Int) + (d.length : Int) < 0) := by omega
    rw [htake, List.map_append, List.sum_append]
    simp only [List.map_cons, List.map_nil, List.sum_cons, List.sum_nil, Nat.add_zero]
    (refine AWp.seqR [0, 2, 3, 5, 6, 8, 9, 10, 11, 12, 20, 24, 25, 26, 27, 28] [] (by decide +kernel) fun K hK => ?_; simp -implicitDefEqProofs only [EV, Nat.reduceEqDiff, reduceCtorEq, hlt]; refine hK _ _ ?_; clear hK K)
    refine AWp.goOn rfl ?_
    refine AWp.seqK fun K2 hK2 => ?_
    refine AWp.block ?_
    (refine AWp.seqR [0, 2, 3, 5, 6, 8, 9, 10, 11, 12, 20, 24, 25, 26, 27, 28] [] (by decide +kernel) fun K hK => ?_; simp -implicitDefEqProofs only [EV, Nat.reduceEqDiff, reduceCtorEq, TF46, TF262]; refine ⟨by omega, _, fosR_get hd, rfl, ?_⟩; (try simp -implicitDefEqProofs only [EV, Nat.reduceEqDiff, reduceCtorEq, ]); refine hK _ _ ?_; clear hK K)
    (refine AWp.seqR [0, 2, 3, 5, 6, 8, 9, 10, 11, 12, 20, 24, 25, 26, 27, 28] [] (by decide +kernel) fun K hK => ?_; simp -implicitDefEqProofs only [EV, Nat.reduceEqDiff, reduceCtorEq, TF46, ]; refine ⟨by first | (unfold InR; omega) | (simp only [InR, sm] at *; omega), ?_⟩; (try simp -implicitDefEqProofs only [EV, forall_const, implies_true, Nat.reduceAdd, Nat.reduceEqDiff, Nat.reduceBEq, Nat.reduceLeDiff, Nat.reduceSub, Nat.reduceMul, Int.reduceEq, Int.reduceLT, Int.reduceLE, Int.reduceSub, Int.reduceAdd, Int.reduceToNat, reduceCtorEq, Int.reduceNeg, TF3, TF4, TF9, TF46, TF84, TF262]); refine hK _ _ ?_; clear hK K)
    (refine AWp.seqR [0, 2, 3, 5, 6, 8, 9, 10, 11, 12, 20, 24, 25, 26, 27, 28] [] (by decide +kernel) fun K hK => ?_; simp -implicitDefEqProofs only [EV, Nat.reduceEqDiff, reduceCtorEq, hnn]; refine hK _ _ ?_; clear hK K)
    refine AWp.condF rfl (AWp.skip (hK2 _ _ ?_))
    clear hK2 K2
    (refine AWp.lastR [0, 2, 3, 5, 6, 8, 9, 10, 11, 12, 20, 24, 25, 26, 27, 28] [] (by decide +kernel) fun K hK => ?_; simp -implicitDefEqProofs only [EV, Nat.reduceEqDiff, reduceCtorEq, ]; refine ⟨by first | (unfold InR; omega) | (simp only [InR, sm] at *; omega), ?_⟩; (try simp -implicitDefEqProofs only [EV, forall_const, implies_true, Nat.reduceAdd, Nat.reduceEqDiff, Nat.reduceBEq, Nat.reduceLeDiff, Nat.reduceSub, Nat.reduceMul, Int.reduceEq, Int.reduceLT, Int.reduceLE, Int.reduceSub, Int.reduceAdd, Int.reduceToNat, reduceCtorEq, Int.reduceNeg, TF3, TF4, TF9, TF46, TF84, TF262]); refine hK _ _ ?_; clear hK K; try simp only [thenA, ])
    exact ⟨(), trivial, (by simp [sle, vle, sget]), (by simp [ble, ])⟩
theorem foR_take (l : List Formal) (j : Nat) (d : Formal) : foR (l.take j ++ [d]) = foR (l.take j) ++ [foC d] := by simp [foR]
theorem ok_Join (a b : List Formal) (hla : a.length ≤ sm) (hlb : b.length ≤ sm) (ha : ∀ f, f ∈ a → f.Sm) (hb : ∀ f, f ∈ b → f.Sm) : CallOK Tryz.prog 138 [.d (.slice (foR a)), .d (.slice (foR b))] (.d (.slice (foR (a ++ b)))) := by
  have hc := ok_ConcatF [a, b] (show 2 ≤ sm by decide) (by simp only [List.map_cons, List.map_nil, List.sum_cons, List.sum_nil]; omega)
  rw [show [a, b].flatten = a ++ b by simp] at hc
  have hl : (a ++ b).length ≤ 2 * sm := by simp only [List.length_append]; omega
  have hs : ∀ f, f ∈ a ++ b → f.Sm := fun f hf => (List.mem_append.1 hf).elim (ha f) (hb f)
  generalize hab : a ++ b = l at *
  (refine CallOK.of_body Tryz.func138 rfl (by decide) (by rw [Tryz.ntmps138]; simp) ?_; rw [Tryz.ntmps138])
  (refine AWp.seqR [0, 1, 4, 5, 7, 11, 12, 13, 14] [] (by decide +kernel) fun K hK => ?_; simp -implicitDefEqProofs only [EV, Nat.reduceAdd, Nat.reduceEqDiff, reduceCtorEq, ]; refine hK _ _ ?_; clear hK K)
  (refine AWp.seqR [0, 1, 4, 5, 7, 11, 12, 13, 14] [] (by decide +kernel) fun K hK => ?_; simp -implicitDefEqProofs only [EV, Nat.reduceEqDiff, reduceCtorEq, ]; refine hK _ _ ?_; clear hK K)
  refine AWp.promote 5 5 5 rfl ?_
  refine AWp.seqK fun K1 hK1 => ?_
  (refine AWp.seqR [0, 1, 4, 5, 7, 11, 12, 13, 14] [] (by decide +kernel) fun K hK => ?_; simp -implicitDefEqProofs only [EV, Nat.reduceAdd, Nat.reduceEqDiff, Nat.reduceLeDiff, Nat.reduceMul, reduceCtorEq, TF46, TF262]; refine ⟨_, .inl ⟨_, rfl, hc, rfl⟩, ?_⟩; (try simp -implicitDefEqProofs only [EV, Nat.reduceEqDiff, reduceCtorEq, TF46, ]); refine hK _ _ ?_; clear hK K)
  refine AWp.block (AWp.forIdx l (X := Unit) (fun j _ => [(5, .acc 5), (11, .d (.slice (foR l))), (12, intV l.length), (13, intV j)]) (fun j _ => [(5, .rows 5 (foR (l.take j)))])
    (fun j _ => True) () trivial (by simp [sle, vle, sget]) (by simp [ble, bget, foR]) ?_ ?_)
  · intro _ _
    rw [List.take_length]
    (refine AWp.seqR [0, 1, 4, 5, 7, 11, 12, 13, 14] [] (by decide +kernel) fun K hK => ?_; simp -implicitDefEqProofs only [EV, Nat.reduceEqDiff, reduceCtorEq, Int.lt_irrefl]; refine hK _ _ ?_; clear hK K)
    refine AWp.stop rfl ?_
    simp only [thenA, blockA, if_true]
    refine hK1 _ _ ?_
    (refine AWp.seqR [0, 1, 4, 5, 7, 11, 12, 13, 14] [] (by decide +kernel) fun K hK => ?_; simp -implicitDefEqProofs only [EV, Nat.reduceEqDiff, reduceCtorEq, ]; refine hK _ _ ?_; clear hK K)
    exact AWp.ret ⟨_, by rw [Tryz.results138]; rfl, rfl⟩
  · intro j _ d hd hmem hdrop htake hlt _
    rw [htake, foR_take]
    (refine AWp.seqR [0, 1, 4, 5, 7, 11, 12, 13, 14] [] (by decide +kernel) fun K hK => ?_; simp -implicitDefEqProofs only [EV, Nat.reduceEqDiff, reduceCtorEq, hlt]; refine hK _ _ ?_; clear hK K)
    refine AWp.goOn rfl ?_
    refine AWp.seqK fun K2 hK2 => ?_
    refine AWp.block ?_
    (refine AWp.seqR [0, 1, 4, 5, 7, 11, 12, 13, 14] [] (by decide +kernel) fun K hK => ?_; simp -implicitDefEqProofs only [EV, Nat.reduceEqDiff, reduceCtorEq, TF46, TF84]; refine ⟨by omega, _, foR_get hd, rfl, ?_⟩; (try simp -implicitDefEqProofs only [EV, Nat.reduceAdd, Nat.reduceEqDiff, Nat.reduceBEq, Nat.reduceLeDiff, reduceCtorEq, TF84]); refine hK _ _ ?_; clear hK K)
    (refine AWp.lastD [0, 1, 4, 5, 7, 11, 12, 13, 14] [] 10 mixed (by decide +kernel) (by decide +kernel) fun K hK => ?_; simp -implicitDefEqProofs only [EV, Nat.reduceAdd, Nat.reduceEqDiff, Nat.reduceLeDiff, reduceCtorEq, TF3, TF9, TF25, TF84]; refine ⟨_, .inl ⟨_, rfl, ok_Clone d.bound (hs d hmem).bound, rfl⟩, ?_⟩; (try simp -implicitDefEqProofs only [EV, Nat.reduceAdd, Nat.reduceEqDiff, Nat.reduceBEq, Nat.reduceLeDiff, Nat.reduceMul, reduceCtorEq, TF46, TF84]); refine ⟨by simp, by simp only [List.length_take]; unfold lim sm at *; omega, ?_⟩; (try simp -implicitDefEqProofs only [EV, forall_const, implies_true, Nat.reduceAdd, Nat.reduceEqDiff, Nat.reduceBEq, Nat.reduceLeDiff, Nat.reduceSub, Nat.reduceMul, Int.reduceEq, Int.reduceLT, Int.reduceLE, Int.reduceSub, Int.reduceAdd, Int.reduceToNat, reduceCtorEq, Int.reduceNeg, TF3, TF4, TF9, TF25, TF46, TF84, TF262]); refine hK _ _ ?_; clear hK K; try simp only [thenA, blockA])
    refine hK2 _ _ ?_
    clear hK2 K2
    (refine AWp.lastR [0, 1, 4, 5, 7, 11, 12, 13, 14] [] (by decide +kernel) fun K hK => ?_; simp -implicitDefEqProofs only [EV, Nat.reduceEqDiff, reduceCtorEq, ]; refine ⟨by first | (unfold InR; omega) | (simp only [InR, sm] at *; omega), ?_⟩; (try simp -implicitDefEqProofs only [EV, forall_const, implies_true, Nat.reduceAdd, Nat.reduceEqDiff, Nat.reduceBEq, Nat.reduceLeDiff, Nat.reduceSub, Nat.reduceMul, Int.reduceEq, Int.reduceLT, Int.reduceLE, Int.reduceSub, Int.reduceAdd, Int.reduceToNat, reduceCtorEq, Int.reduceNeg, TF3, TF4, TF9, TF25, TF46, TF84, TF262]); refine hK _ _ ?_; clear hK K; try simp only [thenA, ])
    exact ⟨(), trivial, (by simp [sle, vle, sget]), by simp [ble, bget, foC]⟩
theorem declT_mem {p : Prog} {nm : Str} {d : Decl} (h : declT p nm = some d) : d ∈ p.decls := List.mem_of_find?_eq_some h
theorem ok_TFormals (p : Prog) (h : p.Sm) (nm : Str) : CallOK Tryz.prog 84 [.dptr (tabC p) 0, strV nm] (.d (.slice (foR (formalsT p nm)))) := by
  have hg := ok_get p h nm []
  rw [tabGet_type] at hg
  rw [show (p.decls.find? fun d => d.isT nm) = declT p nm from rfl] at hg
  have hj : CallOK Tryz.prog 138 [.d (.slice (foR ((declT p nm).getD default).formals)), .d (.slice [])] (.d (.slice (foR (formalsT p nm)))) := by
    cases ho : declT p nm with
    | none => rw [(kind_none ho).2]; exact ok_Join [] [] (by decide) (by decide) (by simp) (by simp)
    | some d =>
      rw [(kind_some ho).2]
      have hd := (h.decls.2 d (declT_mem ho)).formals
      have := ok_Join d.formals [] hd.1 (by decide) hd.2 (by simp)
      rw [List.append_nil] at this
      exact this
  generalize declT p nm = o at *
  (refine CallOK.of_body Tryz.func84 rfl (by decide) (by rw [Tryz.ntmps84]; simp) ?_; rw [Tryz.ntmps84])
  (refine AWp.seqR [0, 1, 4, 5] [] (by decide +kernel) fun K hK => ?_; simp -implicitDefEqProofs only [EV, Nat.reduceAdd, Nat.reduceEqDiff, reduceCtorEq, ]; refine hK _ _ ?_; clear hK K)
  (refine AWp.seqR [0, 1, 4, 5] [] (by decide +kernel) fun K hK => ?_; simp -implicitDefEqProofs only [EV, Nat.reduceAdd, Nat.reduceEqDiff, Nat.reduceLeDiff, reduceCtorEq, TF118]; refine ⟨_, .inl ⟨_, rfl, hg, rfl⟩, ?_⟩; (try simp -implicitDefEqProofs only [EV, Nat.reduceAdd, Nat.reduceEqDiff, Nat.reduceLeDiff, reduceCtorEq, TF80, ]); refine hK _ _ ?_; clear hK K)
  (refine AWp.seqR [0, 1, 4, 5] [] (by decide +kernel) fun K hK => ?_; simp -implicitDefEqProofs only [EV, Nat.reduceAdd, Nat.reduceEqDiff, reduceCtorEq, TF46, TF80, ]; refine ⟨_, .inl ⟨_, rfl, hj, rfl⟩, ?_⟩; (try simp -implicitDefEqProofs only [EV, forall_const, implies_true, Nat.reduceAdd, Nat.reduceEqDiff, Nat.reduceBEq, Nat.reduceLeDiff, Nat.reduceSub, Nat.reduceMul, Int.reduceEq, Int.reduceLT, Int.reduceLE, Int.reduceSub, Int.reduceAdd, Int.reduceToNat, reduceCtorEq, Int.reduceNeg, TF3, TF4, TF9, TF46, TF80, TF84, TF118]); refine hK _ _ ?_; clear hK K)
  exact AWp.ret ⟨_, by rw [Tryz.results84]; rfl, rfl⟩
end Go.Abs
