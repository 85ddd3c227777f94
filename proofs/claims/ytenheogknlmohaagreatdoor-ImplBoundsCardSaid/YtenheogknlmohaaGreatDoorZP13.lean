/- layer 13's plain laws: implementing is reflexive and transitive; a declaration's own type is well formed -/
import Derived.Test.YtenheogknlmohaaGreatDoorZS25
namespace Go.Abs
set_option linter.unusedSimpArgs false
set_option linter.unusedVariables false
open Go Go.Proofs
set_option maxRecDepth 100000
set_option maxHeartbeats 1000000

mutual
/-- a type without its places -/
def Ty.er : Ty → Ty
  | .mk n a _ => .mk n (Ty.erL a) 0
def Ty.erL : List Ty → List Ty
  | [] => []
  | t :: ts => t.er :: Ty.erL ts
end
theorem erL_map : ∀ l : List Ty, Ty.erL l = l.map Ty.er
  | [] => by rw [Ty.erL]; rfl
  | t :: l => by rw [Ty.erL, erL_map l]; rfl
theorem er_eq (t : Ty) : t.er = .mk t.name (t.args.map Ty.er) 0 := by
  cases t with | mk n a p => rw [Ty.er, erL_map]; rfl
theorem mkN (n : Str) (a : List Ty) (p : Int) : (Ty.mk n a p).name = n := rfl
theorem mkA (n : Str) (a : List Ty) (p : Int) : (Ty.mk n a p).args = a := rfl
theorem mkQ (n : Str) (a : List Ty) (p : Int) : (Ty.mk n a p).pos = p := rfl
theorem er_name (t : Ty) : t.er.name = t.name := by rw [er_eq]; rfl
theorem er_args (t : Ty) : t.er.args = t.args.map Ty.er := by rw [er_eq]; rfl
theorem cmpTL_er : ∀ l m : List Ty, (∀ t, t ∈ l → ∀ u, cmpT t u = 0 ↔ t.er = u.er) → (cmpTL l m = 0 ↔ l.map Ty.er = m.map Ty.er)
  | [], [], _ => by simp [cmpTL]
  | [], _ :: _, _ => by simp [cmpTL]
  | _ :: _, [], _ => by simp [cmpTL]
  | x :: xs, y :: ys, h => by
    have h1 := h x (by simp) y
    have h2 := cmpTL_er xs ys fun t ht => h t (by simp [ht])
    rw [cmpTL]
    by_cases hc : cmpT x y = 0
    · rw [if_neg (by simp [hc]), h2]
      simp [h1.1 hc]
    · rw [if_pos hc]
      have : ¬ x.er = y.er := fun hh => hc (h1.2 hh)
      simp [hc, this]
theorem cmpT_er (t : Ty) : ∀ u, cmpT t u = 0 ↔ t.er = u.er := by
  induction t using Ty.induct with
  | h t ih =>
  intro u
  have h2 := cmpTL_er t.args u.args ih
  rw [cmpT_eq, er_eq t, er_eq u]
  by_cases hn : t.name = u.name
  · rw [if_neg (by simp [cmpS_zero.2 hn]), h2]
    simp [hn]
  · have : ¬ cmpS t.name u.name = 0 := fun hh => hn (cmpS_zero.1 hh)
    rw [if_pos this]
    simp [this, hn]
theorem sameT_er (t u : Ty) : sameT t u = true ↔ t.er = u.er := by
  unfold sameT; rw [decide_eq_true_eq]; exact cmpT_er t u
def Formal.er (f : Formal) : Formal := ⟨f.name, f.bound.er, 0⟩
def Param.er (f : Param) : Param := ⟨f.name, f.type.er, 0⟩
def Sig.er (s : Sig) : Sig := ⟨s.name, s.formals.map Formal.er, s.params.map Param.er, s.result.er, 0⟩
theorem sameFo_er (a b : Formal) : sameFo a b = true ↔ a.er = b.er := by
  unfold sameFo Formal.er
  rw [Bool.and_eq_true, sameT_er, decide_eq_true_eq, Formal.mk.injEq]; simp
theorem samePa_er (a b : Param) : samePa a b = true ↔ a.er = b.er := by
  unfold samePa Param.er
  rw [Bool.and_eq_true, sameT_er, decide_eq_true_eq, Param.mk.injEq]; simp
theorem eqL_er {α β : Type} {p : α → α → Bool} {e : α → β} (h : ∀ a b, p a b = true ↔ e a = e b) : ∀ l m : List α, eqL p l m = true ↔ l.map e = m.map e
  | [], [] => by simp [eqL]
  | [], _ :: _ => by simp [eqL]
  | _ :: _, [] => by simp [eqL]
  | x :: xs, y :: ys => by
    rw [eqL, Bool.and_eq_true, h, eqL_er h xs ys]; simp
theorem sameSi_er (a b : Sig) : sameSi a b = true ↔ a.er = b.er := by
  unfold sameSi Sig.er
  rw [Bool.and_eq_true, Bool.and_eq_true, Bool.and_eq_true, sameT_er, decide_eq_true_eq, eqL_er sameFo_er, eqL_er samePa_er, Sig.mk.injEq]
  simp [and_assoc]
theorem subst_er (vars : List Str) (args : List Ty) (t : Ty) : (t.subst vars args).er = t.er.subst vars (args.map Ty.er) := by
  induction t using Ty.induct with
  | h t ih =>
  rw [subst_eq, subst_eq vars (args.map Ty.er) t.er, er_name, er_args, List.length_map, List.length_map]
  by_cases hc : t.args.length = 0 ∧ 0 ≤ indexS t.name vars 0 ∧ indexS t.name vars 0 < args.length
  · have hlt : (indexS t.name vars 0).toNat < args.length := by omega
    rw [if_pos hc, if_pos hc, er_eq, mkN, mkA]
    rw [List.getElem?_map, List.getElem?_eq_getElem hlt, Option.map_some, Option.getD_some, Option.getD_some]
    generalize args[(indexS t.name vars 0).toNat] = u
    rw [er_eq u, er_eq t]; rfl
  · rw [if_neg hc, if_neg hc, er_eq, mkN, mkA, List.map_map, List.map_map]
    rw [er_eq t, mkQ]
    congr 1
    refine List.map_congr_left fun u hu => ?_
    exact ih u hu
theorem fosubst_er (vars : List Str) (args : List Ty) (f : Formal) : (f.subst vars args).er = f.er.subst vars (args.map Ty.er) := by
  simp only [Formal.subst, Formal.er, subst_er]
theorem pasubst_er (vars : List Str) (args : List Ty) (f : Param) : (f.subst vars args).er = f.er.subst vars (args.map Ty.er) := by
  simp only [Param.subst, Param.er, subst_er]
theorem sisubst_er (vars : List Str) (args : List Ty) (s : Sig) : (s.subst vars args).er = s.er.subst vars (args.map Ty.er) := by
  simp only [Sig.subst, Sig.er, subst_er, List.map_map, Sig.mk.injEq, and_true, true_and]
  exact ⟨List.map_congr_left fun u _ => fosubst_er vars args u, List.map_congr_left fun u _ => pasubst_er vars args u⟩
theorem fnames_er (l : List Formal) : fnames (l.map Formal.er) = fnames l := by
  simp only [fnames, List.map_map]; rfl
theorem localTs_er (n : Nat) : (localTs n).map Ty.er = localTs n := by
  simp only [localTs, List.map_map]
  refine List.map_congr_left fun i _ => ?_
  simp only [Function.comp, localT]
  rw [er_eq]; rfl
theorem canon_er (s : Sig) : s.canon.er = s.er.canon := by
  simp only [Sig.canon, Sig.er, Sig.mk.injEq, true_and, and_true]
  refine ⟨?_, ?_, ?_⟩
  · refine List.ext_getElem? fun i => ?_
    simp only [canF, List.getElem?_map, List.getElem?_mapIdx, fnames_er, List.length_map]
    cases s.formals[i]? with
    | none => rfl
    | some f => simp only [Option.map_some, Formal.er, subst_er, localTs_er]
  · refine List.ext_getElem? fun i => ?_
    simp only [canP, List.getElem?_map, List.getElem?_mapIdx, fnames_er, List.length_map]
    cases s.params[i]? with
    | none => rfl
    | some f => simp only [Option.map_some, Param.er, subst_er, localTs_er]
  · rw [subst_er, localTs_er, fnames_er, List.length_map]

theorem nodup_name {l : List Sig} (hn : (l.map (·.name)).Nodup) {s t : Sig} (hs : s ∈ l) (ht : t ∈ l) (h : s.name = t.name) : s = t := by
  induction l with
  | nil => simp at hs
  | cons x l ih =>
    rw [List.map_cons, List.nodup_cons] at hn
    rcases List.mem_cons.1 hs with e1 | hs1
    · rcases List.mem_cons.1 ht with e2 | ht1
      · rw [e1, e2]
      · exact absurd (show x.name ∈ l.map (·.name) from List.mem_map.2 ⟨t, ht1, by rw [← h, e1]⟩) hn.1
    · rcases List.mem_cons.1 ht with e2 | ht1
      · exact absurd (show x.name ∈ l.map (·.name) from List.mem_map.2 ⟨s, hs1, by rw [h, e2]⟩) hn.1
      · exact ih hn.2 hs1 ht1
theorem missB_iff {l : List Sig} (hn : (l.map (·.name)).Nodup) (w : Sig) : missB l w = false ↔ ∃ s, s ∈ l ∧ s.name = w.name ∧ s.canon.er = w.canon.er := by
  unfold missB nameI
  rcases idxF_cases (fun s : Sig => decide (s.name = w.name)) l with ⟨h1, h2⟩ | ⟨j, x, h1, h2, h3⟩
  · rw [h1, if_pos (by decide)]
    constructor
    · intro h; cases h
    · rintro ⟨s, hs, he, _⟩
      have := h2 s hs
      simp [he] at this
  · rw [h1, if_neg (by omega), Int.toNat_natCast, h2, Option.getD_some]
    have hx := List.mem_of_getElem? h2
    have hxn : x.name = w.name := by simpa using h3
    constructor
    · intro h
      refine ⟨x, hx, hxn, (sameSi_er _ _).1 ?_⟩
      cases hh : sameSi x.canon w.canon with
      | true => rfl
      | false => rw [hh] at h; cases h
    · rintro ⟨s, hs, he, hc⟩
      obtain rfl := nodup_name hn hs hx (he.trans hxn.symm)
      rw [(sameSi_er _ _).2 hc]; rfl
theorem cov_iff {l : List Sig} (hn : (l.map (·.name)).Nodup) (m : List Sig) : missL l m = [] ↔ ∀ w, w ∈ m → ∃ s, s ∈ l ∧ s.name = w.name ∧ s.canon.er = w.canon.er := by
  unfold missL
  rw [List.map_eq_nil_iff, List.filter_eq_nil_iff]
  refine forall_congr' fun w => forall_congr' fun _ => ?_
  rw [← missB_iff hn w]; simp
theorem cov_er {l m : List Sig} (h : l.map Sig.er = m.map Sig.er) : ∀ w, w ∈ m → ∃ s, s ∈ l ∧ s.name = w.name ∧ s.canon.er = w.canon.er := by
  intro w hw
  have : w.er ∈ l.map Sig.er := by rw [h]; exact List.mem_map.2 ⟨w, hw, rfl⟩
  obtain ⟨s, hs, he⟩ := List.mem_map.1 this
  refine ⟨s, hs, ?_, by rw [canon_er, canon_er, he]⟩
  have : s.er.name = w.er.name := by rw [he]
  exact this
theorem er_inj {x y : Ty} (h : x.er = y.er) : x.name = y.name ∧ x.args.map Ty.er = y.args.map Ty.er ∧ x.args.length = y.args.length := by
  have h1 : x.er.name = y.er.name := by rw [h]
  have h2 : x.er.args = y.er.args := by rw [h]
  rw [er_name, er_name] at h1
  rw [er_args, er_args] at h2
  exact ⟨h1, h2, by have := congrArg List.length h2; simpa using this⟩
theorem findV_er {env : List Formal} {x y : Ty} (h : x.er = y.er) : findV env x = findV env y := by
  obtain ⟨h1, _, h3⟩ := er_inj h
  unfold findV; rw [h1, h3]
theorem boundV_er {env : List Formal} {x y : Ty} (h : x.er = y.er) : boundV env x = boundV env y := by
  unfold boundV; rw [findV_er h]
theorem instB_er {p : Prog} {x y : Ty} {k : Int} (h : x.er = y.er) : instB p x k = instB p y k := by
  obtain ⟨h1, _, h3⟩ := er_inj h
  unfold instB; rw [h1, h3]
theorem isIface_er {p : Prog} {env : List Formal} {x y : Ty} (h : x.er = y.er) : isIface p env x = isIface p env y := by
  unfold isIface; rw [instB_er h, boundV_er h]
theorem specL_er {vars : List Str} {a b : List Ty} (h : a.map Ty.er = b.map Ty.er) (l : List Sig) (j : Nat) : (specL vars a l j).map Sig.er = (specL vars b l j).map Sig.er := by
  unfold specL
  rw [List.map_map, List.map_map]
  refine List.map_congr_left fun s _ => ?_
  simp only [Function.comp, sisubst_er, h]
theorem specsT_er {p : Prog} {x y : Ty} (h : x.er = y.er) : (specsT p x).map Sig.er = (specsT p y).map Sig.er := by
  obtain ⟨h1, h2, _⟩ := er_inj h
  unfold specsT
  rw [instB_er h, h1]
  split
  · exact specL_er h2 _ _
  · rfl
theorem methB_er {p : Prog} {x y : Ty} (h : x.er = y.er) : methB p x = methB p y := by
  obtain ⟨h1, _, h3⟩ := er_inj h
  funext d i
  unfold methB methP
  rw [instB_er h, h1, h3]
theorem methL_er {p : Prog} {x y : Ty} (h : x.er = y.er) (j : Nat) : (methL p x j).map Sig.er = (methL p y j).map Sig.er := by
  unfold methL
  rw [methB_er h, List.map_map, List.map_map]
  refine List.map_congr_left fun s _ => ?_
  simp only [Function.comp, sisubst_er, (er_inj h).2.1]
theorem setU_er {p : Prog} {env : List Formal} {x y : Ty} (h : x.er = y.er) : (setU p env x).map Sig.er = (setU p env y).map Sig.er := by
  unfold setU
  rw [boundV_er h]
  cases boundV env y with
  | some b => rfl
  | none =>
    simp only [Option.getD_none, Option.isSome_none, Bool.false_eq_true, if_false]
    rw [instB_er h]
    split
    · exact specsT_er h
    · exact methL_er h _
theorem setU_names (p : Prog) (env : List Formal) (x : Ty) : ((setU p env x).map (·.name)).Nodup := by
  unfold setU
  split
  · exact specsT_names p _
  · split
    · simp
    · exact (methL_names p _ _ (Nat.le_refl _)).1
theorem setT_names (p : Prog) (env : List Formal) (x : Ty) : ((setT p env x).map (·.name)).Nodup :=
  (((sortSi_perm (setU p env x)).map _).nodup_iff).2 (setU_names p env x)
theorem mem_setT {p : Prog} {env : List Formal} {x : Ty} {s : Sig} : s ∈ setT p env x ↔ s ∈ setU p env x := (sortSi_perm _).mem_iff
theorem covT_iff {p : Prog} {env : List Formal} {x y : Ty} : missL (setT p env x) (setT p env y) = [] ↔ ∀ w, w ∈ setU p env y → ∃ s, s ∈ setU p env x ∧ s.name = w.name ∧ s.canon.er = w.canon.er := by
  rw [cov_iff (setT_names p env x)]
  simp only [mem_setT]
theorem implB_refl (p : Prog) (env : List Formal) (x : Ty) : implB p env x x = true := by
  unfold implB
  split
  · rw [decide_eq_true_eq, covT_iff]
    exact fun w hw => ⟨w, hw, rfl, rfl⟩
  · exact (sameT_er x x).2 rfl
theorem implB_trans {p : Prog} {env : List Formal} {x y z : Ty} (h1 : implB p env x y = true) (h2 : implB p env y z = true) : implB p env x z = true := by
  unfold implB at *
  by_cases hz : isIface p env z = true
  · rw [if_pos hz] at h2 ⊢
    rw [decide_eq_true_eq, covT_iff] at h2 ⊢
    have hxy : ∀ w, w ∈ setU p env y → ∃ s, s ∈ setU p env x ∧ s.name = w.name ∧ s.canon.er = w.canon.er := by
      by_cases hy : isIface p env y = true
      · rw [if_pos hy, decide_eq_true_eq, covT_iff] at h1
        exact h1
      · rw [if_neg hy, sameT_er] at h1
        exact cov_er (setU_er h1)
    intro w hw
    obtain ⟨s, hs, e1, e2⟩ := h2 w hw
    obtain ⟨r, hr, e3, e4⟩ := hxy s hs
    exact ⟨r, hr, e3.trans e1, e4.trans e2⟩
  · rw [if_neg hz, sameT_er] at h2 ⊢
    have hy : ¬ isIface p env y = true := by rw [isIface_er h2]; exact hz
    rw [if_neg hy, sameT_er] at h1
    exact h1.trans h2

def varT (f : Formal) : Ty := .mk f.name [] 0
theorem index_names (l : List Formal) (nm : Str) : (indexS nm (fnames l) 0 = -1) ∨ ∃ (k : Nat) (f : Formal), l[k]? = some f ∧ f.name = nm ∧ indexS nm (fnames l) 0 = (k : Int) := by
  rcases indexS_find nm (fnames l) 0 with ⟨h, _⟩ | ⟨k, h1, h2⟩
  · exact .inl h
  · unfold fnames at h1
    rw [List.getElem?_map, Option.map_eq_some_iff] at h1
    obtain ⟨f, hf, he⟩ := h1
    exact .inr ⟨k, f, hf, he, by rw [h2]; simp⟩
theorem subst_self (l : List Formal) (t : Ty) : t.subst (fnames l) (l.map varT) = t := by
  induction t using Ty.induct with
  | h t ih =>
  rw [subst_eq]
  split
  · rename_i hc
    rcases index_names l t.name with h | ⟨k, f, hf, he, hk⟩
    · omega
    · rw [hk, Int.toNat_natCast, List.getElem?_map, hf, Option.map_some, Option.getD_some]
      cases t with | mk n a p =>
      have ha : a = [] := List.eq_nil_of_length_eq_zero hc.1
      subst ha
      simp only [varT, Ty.name, Ty.args, Ty.pos] at *
      rw [he]
  · cases t with | mk n a p =>
    simp only [Ty.name, Ty.args, Ty.pos] at *
    congr 1
    refine (List.map_congr_left ih).trans ?_
    simp
theorem varT_bound {l : List Formal} {k : Nat} {f : Formal} (hf : l[k]? = some f) (hn : findV (l.take k) (varT f) < 0) : boundV l (varT f) = some f.bound := by
  have hk : findV l (varT f) = k := by
    unfold findV at hn ⊢
    rw [if_pos (by rfl)] at hn ⊢
    refine idxF_some hf (by simp [varT, Ty.name]) fun y hy => ?_
    rcases idxF_cases (fun g : Formal => decide (g.name = (varT f).name)) (l.take k) with ⟨_, h⟩ | ⟨j, x, h, _⟩
    · exact h y hy
    · rw [h] at hn; omega
  unfold boundV
  rw [hk, if_neg (by omega), Int.toNat_natCast, hf]; rfl
theorem chkL_vars {p : Prog} {env : List Formal} : ∀ l : List Ty, (∀ t, t ∈ l → (boundV env t).isSome = true) → chkL p env l = none
  | [], _ => by rw [chkL]
  | t :: l, h => by
    rw [chkL, chk_eq, if_pos (h t (by simp))]
    exact chkL_vars l fun u hu => h u (by simp [hu])
/-- the type of a declaration over its own formals -/
theorem chk_self {p : Prog} {l : List Formal} {nm : Str} (hk : kindOf p nm ≠ 0) (hl : (formalsT p nm).length = l.length)
    (h : ∀ (k : Nat) (f g : Formal), l[k]? = some f → (formalsT p nm)[k]? = some g → findV (l.take k) (varT f) < 0 ∧ g.name = f.name ∧ sameT g.bound f.bound = true ∧ isIface p l f.bound = true) :
    chk p l (.mk nm (l.map varT) 0) = none := by
  have hb : ∀ (k : Nat) (f : Formal), l[k]? = some f → boundV l (varT f) = some f.bound := fun k f hf => by
    have hlt : k < (formalsT p nm).length := by rw [hl]; exact (List.getElem?_eq_some_iff.1 hf).1
    exact varT_bound hf (h k f _ hf (List.getElem?_eq_getElem hlt)).1
  have hn : fnames (formalsT p nm) = fnames l := by
    unfold fnames
    refine List.ext_getElem (by simp [hl]) fun i h1 h2 => ?_
    rw [List.length_map] at h1 h2
    rw [List.getElem_map, List.getElem_map]
    exact (h i _ _ (List.getElem?_eq_getElem h2) (List.getElem?_eq_getElem h1)).2.1
  rw [chk]
  split
  · rfl
  · rw [if_neg (by rintro (h1 | h1); exact hk h1; exact h1 (by rw [List.length_map]; exact hl))]
    rw [chkL_vars]
    · simp only
      have hi : boundsI p l (formalsT p nm) (l.map varT) = -1 := by
        unfold boundsI
        refine idxF_none ?_
        intro z hz
        obtain ⟨k, hk⟩ := List.getElem?_of_mem hz
        obtain ⟨g, u⟩ := z
        rw [List.getElem?_zip_eq_some] at hk
        obtain ⟨hg, hu⟩ := hk
        rw [List.getElem?_map, Option.map_eq_some_iff] at hu
        obtain ⟨f, hf, rfl⟩ := hu
        obtain ⟨h1, h2, h3, h4⟩ := h k f g hf hg
        rw [sameT_er] at h3
        have hiG : isIface p l g.bound = true := by rw [isIface_er h3]; exact h4
        unfold boundQ
        rw [hn, subst_self]
        show (!implB p l (varT f) g.bound) = false
        unfold implB
        rw [if_pos hiG]
        have hU : setU p l (varT f) = specsT p f.bound := by
          unfold setU
          rw [hb k f hf, Option.getD_some]
          unfold isIface at h4
          rw [Bool.and_eq_true] at h4
          rw [if_pos h4.1]
        have hG : setU p l g.bound = specsT p g.bound := by
          unfold isIface at hiG
          rw [Bool.and_eq_true] at hiG
          unfold setU
          cases hbo : boundV l g.bound with
          | some b => rw [hbo] at hiG; simp at hiG
          | none => rw [Option.getD_none, if_pos hiG.1]
        have : missL (setT p l (varT f)) (setT p l g.bound) = [] := by
          rw [covT_iff, hU, hG]
          exact cov_er (specsT_er h3.symm)
        rw [this]; rfl
      rw [hi, if_neg (by decide)]
    · intro t ht
      obtain ⟨f, hf, rfl⟩ := List.mem_map.1 ht
      obtain ⟨k, hk⟩ := List.getElem?_of_mem hf
      rw [hb k f hk]; rfl
end Go.Abs
