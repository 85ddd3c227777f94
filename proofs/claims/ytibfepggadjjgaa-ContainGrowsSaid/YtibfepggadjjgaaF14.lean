/- what a table's map holds -/
import Derived.Test.YtibfepggadjjgaaF12
namespace Go.Abs
set_option linter.unusedSimpArgs false
set_option linter.unusedVariables false
open Go Go.Proofs

def kval (l : List Lit) (m : List (D × D)) : Option D := (kfind l m 0).map (·.2)
theorem kfind_shift (l : List Lit) : ∀ (m : List (D × D)) (i : Nat), (kfind l m i).map (·.2) = kval l m
  | [], i => rfl
  | kv :: r, i => by
    unfold kval
    simp only [kfind]
    split
    · rfl
    · rw [kfind_shift l r (i + 1), kfind_shift l r (0 + 1)]
theorem kval_cons (l : List Lit) (k v : D) (m : List (D × D)) : kval l ((k, v) :: m) = if l = k.lits then some v else kval l m := by
  unfold kval
  simp only [kfind]
  split
  · rfl
  · exact kfind_shift l m 1
theorem kval_app (l : List Lit) (k v : D) : ∀ m : List (D × D), kval l (m ++ [(k, v)]) = match kval l m with | some x => some x | none => if l = k.lits then some v else none
  | [] => by rw [List.nil_append, kval_cons]; rfl
  | (k', v') :: m => by
    rw [List.cons_append, kval_cons, kval_cons, kval_app l k v m]
    split <;> rfl
def firstK (l : List Lit) : List Decl → Nat → Option D
  | [], _ => none
  | d :: ds, i => match keyOfD d with
    | some k => if l = k.lits then some (.int .i64 i) else firstK l ds (i + 1)
    | none => firstK l ds (i + 1)
theorem kval_tabF (l : List Lit) : ∀ (ds : List Decl) (i : Nat) (m : List (D × D)), kval l (tabF ds i m) = match kval l m with | some x => some x | none => firstK l ds i
  | [], i, m => by simp only [tabF, firstK]; cases kval l m <;> rfl
  | d :: ds, i, m => by
    simp only [tabF, firstK]
    rw [kval_tabF l ds (i + 1)]
    unfold tabStep
    cases hk : keyOfD d with
    | none => rfl
    | some k =>
      simp only
      by_cases hs : (kfind k.lits m 0).isSome = true
      · rw [if_pos hs]
        cases hm : kval l m with
        | some x => rfl
        | none =>
          simp only
          rw [if_neg]
          rintro rfl
          unfold kval at hm
          cases hf : kfind k.lits m 0 <;> simp [hf] at hs hm
      · rw [if_neg hs]
        have hn : kfind k.lits m 0 = none := by cases hf : kfind k.lits m 0 <;> simp [hf] at hs ⊢
        unfold kput
        rw [hn]
        simp only
        rw [kval_app]
        cases hm : kval l m with
        | some x => rfl
        | none =>
          simp only
          by_cases hl : l = k.lits
          · rw [if_pos hl, if_pos hl]
          · rw [if_neg hl, if_neg hl]
end Go.Abs
