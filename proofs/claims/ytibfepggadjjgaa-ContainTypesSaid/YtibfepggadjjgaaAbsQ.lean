/- Maps, closures. Own framework, part Q. -/
import Derived.Test.YtibfepggadjjgaaAbsM
import Derived.DeepKeys3
import Derived.MapKept
import Derived.WideKeyRuns
namespace Go.Abs
open Go

variable {P : Program} {o : Oper} {ρ : Rho} {bx : Boxes}

/-! keys -/
def D.lit : D → Lit
  | .str s => .string s
  | .int k n => .int k n
  | .bool b => .bool b
  | _ => .nil
def D.flatK : D → Bool
  | .str _ | .int _ _ | .bool _ => true
  | _ => false
def D.lits : D → List Lit
  | .agg cs => cs.map D.lit
  | d => [d.lit]
def D.kv : D → Value
  | .agg cs => .agg ⟨cs.map fun c => c.lit.value⟩
  | d => d.lit.value
def D.isKey : D → Bool
  | .agg cs => cs.all D.flatK
  | d => d.flatK
theorem RepC.flatKv {S : Nat → Prop} {w : World} {d : D} {v : Value} (h : RepC S w d v) (hk : d.flatK = true) : v = d.lit.value := by
  cases h <;> simp [D.flatK] at hk <;> rfl
theorem RepC.kv {S : Nat → Prop} {w : World} {d : D} {v : Value} (h : RepC S w d v) (hk : d.isKey = true) : v = d.kv := by
  cases h with
  | agg cells vs h1 h2 h3 =>
    simp only [D.kv, Value.agg.injEq]
    apply Array.ext'
    simp only
    apply List.ext_getElem?
    intro j
    rw [List.getElem?_map]
    cases hc : cells[j]? with
    | none =>
      have := List.getElem?_eq_none_iff.1 hc
      rw [List.getElem?_eq_none (by omega)]; rfl
    | some c =>
      have hj := (List.getElem?_eq_some_iff.1 hc).1
      have hv : vs[j]? = some (vs[j]'(by omega)) := List.getElem?_eq_getElem (by omega)
      rw [hv]
      have := h3 j c _ hc hv
      simp only [D.isKey, List.all_eq_true] at hk
      rw [this.flatKv (hk c (List.mem_of_getElem? hc))]; rfl
  | _ => first | exact RepC.flatKv (by assumption) hk | (simp [D.isKey, D.flatK] at hk; done) | rfl
theorem RepC.ofFlat {S : Nat → Prop} {w : World} {d : D} (hk : d.flatK = true) (hb : d.Bd) : RepC S w d d.lit.value := by
  cases d <;> simp [D.flatK] at hk
  · exact .int _ _
  · exact .bool _
  · cases hb with | str _ h => exact .str _ h

structure KeyAt (P : Program) (kt : TypeId) (d : D) : Prop where
  isKey : d.isKey = true
  formed : d.kv.formed P kt = true
  lits : P.keyLits (P.types.size + 1) kt d.kv.cells.toList = some d.lits

/-- a type whose keys are compared cell by cell -/
def keyT (P : Program) (kt : TypeId) : Bool := P.keyTypeAt 100 kt && match P.underlying kt with
  | some .string | some (.struct _) | some (.array _ _) => true
  | _ => false

theorem KeyAt.same {kt : TypeId} {d d' : D} (h : KeyAt P kt d) (h' : KeyAt P kt d') (e : d.lits = d'.lits) : d.kv = d'.kv := by
  have f1 := h.formed
  have f2 := h'.formed
  have m : ∀ a b : List D, a.map D.lit = b.map D.lit → (a.map fun c => c.lit.value) = b.map fun c => c.lit.value := fun a b hab => by
    have := congrArg (List.map Lit.value) hab
    simpa [List.map_map, Function.comp_def] using this
  have i1 := h.isKey
  have i2 := h'.isKey
  cases d with
  | agg cs =>
    cases d' with
    | agg cs' => simp only [D.lits] at e; simp only [D.kv]; rw [m cs cs' e]
    | str _ | int _ _ | bool _ =>
      simp only [D.kv, D.lit, Lit.value, Value.formed] at f1 f2
      split at f1 <;> simp_all
    | _ => simp [D.isKey, D.flatK] at i2
  | str _ | int _ _ | bool _ =>
    cases d' with
    | agg cs' =>
      simp only [D.kv, D.lit, Lit.value, Value.formed] at f1 f2
      split at f2 <;> simp_all
    | str _ | int _ _ | bool _ => simp only [D.lits, List.cons.injEq, and_true] at e; simp only [D.kv]; rw [e]
    | _ => simp [D.isKey, D.flatK] at i2
  | _ => simp [D.isKey, D.flatK] at i1

theorem sameBits_flat (l : Lit) (h : l ≠ .nil) : Instr.sameBits 9999 l.value l.value = true := by
  cases l <;> simp only [Lit.value, Instr.sameBits, ne_eq, not_true_eq_false, beq_self_eq_true, Bool.and_self] at * <;> first | exact (MapKept.bytes_beq _ _).2 rfl | skip
theorem sameBits_kv {d : D} (h : d.isKey = true) : Instr.sameBits 10000 d.kv d.kv = true := by
  cases d with
  | agg cs =>
    simp only [D.kv, Instr.sameBits, beq_self_eq_true, Bool.true_and]
    simp only [D.isKey, List.all_eq_true] at h
    rw [List.all_eq_true]
    intro p hp
    obtain ⟨i, hi⟩ := List.mem_iff_getElem?.1 hp
    rw [List.getElem?_zip_eq_some] at hi
    obtain ⟨h1, h2⟩ := hi
    have he : p.1 = p.2 := by rw [h1] at h2; exact Option.some.inj h2
    obtain ⟨c, hc, hcv⟩ := List.mem_map.1 (List.mem_of_getElem? h1)
    rw [← he, ← hcv]
    refine sameBits_flat _ ?_
    have := h c hc
    cases c <;> simp [D.flatK] at this <;> simp [D.lit]
  | _ => first | (simp [D.isKey, D.flatK] at h; done) | (simp [D.kv, D.lit, Lit.value, Instr.sameBits]; done) | exact (MapKept.bytes_beq _ _).2 rfl

/-! searching -/
instance litDec : DecidableEq Lit := by
  intro a b
  cases a <;> cases b <;> simp only [Lit.bool.injEq, Lit.int.injEq, Lit.float.injEq, Lit.string.injEq, reduceCtorEq] <;> infer_instance
def kfind (l : List Lit) : List (D × D) → Nat → Option (Nat × D)
  | [], _ => none
  | kv :: r, i => if l = kv.1.lits then some (i, kv.2) else kfind l r (i + 1)
def kput (k v : D) (kvs : List (D × D)) : List (D × D) := match kfind k.lits kvs 0 with
  | some (j, _) => kvs.set j (k, v)
  | none => kvs ++ [(k, v)]

theorem keyT_eq {kt : TypeId} (hk : keyT P kt = true) (w : World) {a b : D} (ha : KeyAt P kt a) (hb : KeyAt P kt b) :
    ∃ r : Bool, (Op.equal kt a.kv b.kv).run P w = .ok r w ∧ (r = true ↔ a.lits = b.lits) := by
  unfold keyT at hk
  simp only [Bool.and_eq_true] at hk
  exact run_equalIn_deep 9900 100 kt hk.1 w _ _ a.kv b.kv a.lits b.lits ha.formed hb.formed ha.lits hb.lits

theorem keyT_check {kt : TypeId} (hk : keyT P kt = true) (em : Bool) (w : World) {a : D} (ha : KeyAt P kt a) : (Instr.checkKey em 10000 kt a.kv).run P w = .ok () w := by
  unfold keyT at hk
  simp only [Bool.and_eq_true] at hk
  exact run_checkKey_deep em 9900 100 kt hk.1 w _ a.kv a.lits ha.formed ha.lits

/-- what the search gives -/
def Found (es : List MapEntry) (i : Nat) : Option (Nat × D) → Option (Nat × Value) → List (D × D) → Prop
  | none, r, _ => r = none
  | some (j, d), r, kvs => ∃ e k, i ≤ j ∧ es[j - i]? = some e ∧ kvs[j - i]? = some (k, d) ∧ r = some (j, e.val)

theorem find_asking {kt : TypeId} (hk : keyT P kt = true) (w : World) {a : D} (ha : KeyAt P kt a) : ∀ (es : List MapEntry) (kvs : List (D × D)) (i : Nat), es.length = kvs.length →
    (∀ (j : Nat) (e : MapEntry) (kv : D × D), es[j]? = some e → kvs[j]? = some kv → e.key = kv.1.kv ∧ KeyAt P kt kv.1) →
    ∃ r, (Instr.findAsking kt a.kv es i).run P w = .ok r w ∧ Found es i (kfind a.lits kvs i) r kvs
  | [], [], i, _, _ => ⟨none, by simp [Instr.findAsking], rfl⟩
  | [], _ :: _, _, h, _ => by simp at h
  | _ :: _, [], _, h, _ => by simp at h
  | e :: es, kv :: kvs, i, h, hall => by
    obtain ⟨h1, h2⟩ := hall 0 e kv rfl rfl
    obtain ⟨r, hr, hiff⟩ := keyT_eq hk w ha h2
    simp only [kfind]
    by_cases he : a.lits = kv.1.lits
    · rw [if_pos he]
      have : r = true := hiff.2 he
      subst this
      exact ⟨some (i, e.val), by simp [Instr.findAsking, h1, hr], e, kv.1, by omega, by simp, by simp, rfl⟩
    · rw [if_neg he]
      have : r = false := by cases r with | false => rfl | true => exact absurd (hiff.1 rfl) he
      subst this
      obtain ⟨r, g1, g2⟩ := find_asking hk w ha es kvs (i + 1) (by simpa using h) (fun j e kv he hkv => hall (j + 1) e kv (by simpa using he) (by simpa using hkv))
      refine ⟨r, by simp [Instr.findAsking, h1, hr, g1], ?_⟩
      generalize kfind a.lits kvs (i + 1) = q at *
      cases q with
      | none => exact g2
      | some jd =>
        obtain ⟨j, d⟩ := jd
        obtain ⟨e', k', q1, q2, q3, q4⟩ := g2
        refine ⟨e', k', by omega, ?_, ?_, q4⟩
        · rw [show j - i = (j - (i + 1)) + 1 by omega]; simpa using q2
        · rw [show j - i = (j - (i + 1)) + 1 by omega]; simpa using q3
theorem find_now {kt : TypeId} (hs : P.underlying kt = some .string) {a : D} (ha : KeyAt P kt a) : ∀ (es : List MapEntry) (kvs : List (D × D)) (i : Nat), es.length = kvs.length →
    (∀ (j : Nat) (e : MapEntry) (kv : D × D), es[j]? = some e → kvs[j]? = some kv → e.key = kv.1.kv ∧ KeyAt P kt kv.1) →
    ∃ r, Instr.findNow .string a.kv es i = some r ∧ Found es i (kfind a.lits kvs i) r kvs
  | [], [], i, _, _ => ⟨none, by simp [Instr.findNow], rfl⟩
  | [], _ :: _, _, h, _ => by simp at h
  | _ :: _, [], _, h, _ => by simp at h
  | e :: es, kv :: kvs, i, h, hall => by
    obtain ⟨h1, h2⟩ := hall 0 e kv rfl rfl
    have str : ∀ {d : D}, KeyAt P kt d → ∃ s, d = .str s := fun {d} hd => by
      have f := hd.formed
      have l := hd.lits
      have k := hd.isKey
      cases d with
      | str s => exact ⟨s, rfl⟩
      | agg cs => simp [D.kv, Value.formed, hs] at f
      | int k n => simp [D.kv, D.lit, Lit.value, Program.keyLits, hs, Value.cells] at l
      | bool b => simp [D.kv, D.lit, Lit.value, Program.keyLits, hs, Value.cells] at l
      | _ => simp [D.isKey, D.flatK] at k
    obtain ⟨s, rfl⟩ := str ha
    obtain ⟨k, d⟩ := kv
    obtain ⟨t, rfl⟩ := str h2
    simp only [kfind]
    have hsame : Instr.sameNow .string (D.str s).kv e.key = some (decide (s = t)) := by
      rw [h1]
      simp only [D.kv, D.lit, Lit.value, Instr.sameNow, Option.some.injEq]
      rw [Bool.eq_iff_iff]
      rw [MapKept.bytes_beq]
      simp only [ByteArray.mk.injEq, decide_eq_true_eq]
      constructor
      · intro h; have := congrArg Array.toList h; simpa using this
      · rintro rfl; rfl
    by_cases he : s = t
    · subst he
      rw [if_pos rfl]
      exact ⟨some (i, e.val), by simp [Instr.findNow, hsame], e, _, by omega, by simp, by simp; rfl, rfl⟩
    · rw [if_neg (by simpa [D.lits, D.lit] using he)]
      obtain ⟨r, g1, g2⟩ := find_now hs ha es kvs (i + 1) (by simpa using h) (fun j e kv he hkv => hall (j + 1) e kv (by simpa using he) (by simpa using hkv))
      refine ⟨r, by simp [Instr.findNow, hsame, he, g1], ?_⟩
      generalize kfind (D.str s).lits kvs (i + 1) = q at *
      cases q with
      | none => exact g2
      | some jd =>
        obtain ⟨j, d⟩ := jd
        obtain ⟨e', k', q1, q2, q3, q4⟩ := g2
        refine ⟨e', k', by omega, ?_, ?_, q4⟩
        · rw [show j - i = (j - (i + 1)) + 1 by omega]; simpa using q2
        · rw [show j - i = (j - (i + 1)) + 1 by omega]; simpa using q3

theorem find_key {kt : TypeId} (hk : keyT P kt = true) (w : World) {a : D} (ha : KeyAt P kt a) (es : List MapEntry) (kvs : List (D × D)) (hl : es.length = kvs.length)
    (hall : ∀ (j : Nat) (e : MapEntry) (kv : D × D), es[j]? = some e → kvs[j]? = some kv → e.key = kv.1.kv ∧ KeyAt P kt kv.1) :
    ∃ r, (Instr.findKey kt a.kv es).run P w = .ok r w ∧ Found es 0 (kfind a.lits kvs 0) r kvs := by
  by_cases hs : P.underlying kt = some .string
  · obtain ⟨r, h1, h2⟩ := find_now hs ha es kvs 0 hl hall
    exact ⟨r, MapKept.run_findKey hs h1, h2⟩
  · have hw : (match P.underlying kt with | some (.array _ _) | some (.struct _) => true | _ => false) = true := by
      have hk2 := hk
      unfold keyT at hk2
      simp only [Bool.and_eq_true] at hk2
      have := hk2.2
      split at this <;> simp_all
    obtain ⟨r, h1, h2⟩ := find_asking hk w ha es kvs 0 hl hall
    exact ⟨r, by rw [run_findKey_eq w hw]; exact h1, h2⟩

/-! what goes into a map, and comes out -/
def asD : SV → Option D
  | .d x => some x
  | .agg cs => (toDs cs).map .agg
  | _ => none
def ofD : D → SV
  | .agg cs => .agg (cs.map .d)
  | d => .d d
theorem asD_rep {S : Nat → Prop} {w : World} {β : Names} {x : SV} {d : D} {v : Value} (h : RepV S w β x v) (hd : asD x = some d) : RepC S w d v := by
  cases h with
  | d x v h => simp only [asD, Option.some.injEq] at hd; subst hd; exact h
  | agg cells vs h1 h2 h3 =>
    simp only [asD, Option.map_eq_some_iff] at hd
    obtain ⟨ds, hds, rfl⟩ := hd
    obtain ⟨q1, q2, q3⟩ := toDs_rep cells ds vs hds ⟨h1, h3⟩
    exact .agg ds vs (by omega) q2 q3
  | _ => simp [asD] at hd
theorem ofD_rep {S : Nat → Prop} {w : World} {β : Names} {d : D} {v : Value} (h : RepC S w d v) : RepV S w β (ofD d) v := by
  cases h with
  | agg cells vs h1 h2 h3 =>
    refine .agg _ vs (by simpa using h1) ?_ ?_
    · intro c hc
      obtain ⟨d, hd, rfl⟩ := List.mem_map.1 hc
      exact h2 d hd
    · intro j c v hc hv
      rw [List.getElem?_map, Option.map_eq_some_iff] at hc
      obtain ⟨d, hd, rfl⟩ := hc
      exact .d _ _ (h3 j d v hd hv)
  | int | bool | str | nil | emp | slice0 | slice | ptr | nilptr | map | nilmap | iface | niliface => exact .d _ _ (by constructor <;> assumption)

def zone (P : Program) (T : TypeId) : Option SV := match (P.info? T).bind (·.zero) with
  | some (.agg _) => none
  | some z => some (constSV z)
  | none => none
theorem run_zone {T : TypeId} {z : SV} (h : zone P T = some z) (w : World) : ∃ v, (zeroValue T).run P w = .ok v w ∧ z = constSV v := by
  unfold zone at h
  cases hi : P.info? T with
  | none => simp [hi] at h
  | some i =>
    cases hz : i.zero with
    | none => simp [hi, hz] at h
    | some v =>
      simp only [hi, hz, Option.bind_some] at h
      refine ⟨v, by simp [zeroValue, typeInfo, hi, hz], ?_⟩
      split at h
      · simp at h
      · rename_i e; simp only [Option.some.injEq] at e h; subst e; exact h.symm
      · rename_i e; simp at e

/-! operations -/
theorem opT_makeMap {T k : Nat} (hkf : k ≤ 999999) (ho : o.op = .makeMap T none) : OpT P o ρ bx (.mp k) ((k, .map []) :: bpurge k (berase k bx)) [k] := by
  intro C S w β a hi ha
  obtain ⟨h1, h2⟩ := hi.setNew (k := k) (w' := { w with heap := w.heap.push (.map #[] 0) }) (c := .map []) { base := some w.heap.size } hkf (by
      intro b hb; cases hb
      exact ⟨fun h => by have := hi.Slt _ h; omega, by simp, .inl (Nat.le_refl _)⟩)
    (fun b hb _ => by simp [Array.getElem?_push, Nat.ne_of_lt hb]) rfl rfl rfl (by simp) (fun _ => by
      refine ⟨w.heap.size, #[], 0, rfl, by simp, ⟨rfl, by simp [BornOK]⟩, ?_⟩
      intro r kv e hr; simp at hr)
  unfold Oper.wp
  have : (execOp a.eval o).run P w = .ok (.value (.map (some w.heap.size))) { w with heap := w.heap.push (.map #[] 0) } := by
    simp [execOp, ho, Instr.makeMap, newObj]; rfl
  rw [this]
  exact ⟨_, S, _, rfl, h1, h2, .mp k _ (by rw [upd_same]), fun j hj => upd_ne (by simpa using hj)⟩

/-- what a map's box says of its entries -/
theorem entries_key {kt : TypeId} {S : Nat → Prop} {w : World} {kvs : List (D × D)} {es : Array MapEntry} (hsz : es.size = kvs.length)
    (h : ∀ (r : Nat) (kv : D × D) (e : MapEntry), kvs[r]? = some kv → es[r]? = some e → RepC S w kv.1 e.key) (hall : ∀ kv, kv ∈ kvs → KeyAt P kt kv.1) :
    ∀ (j : Nat) (e : MapEntry) (kv : D × D), es.toList[j]? = some e → kvs[j]? = some kv → e.key = kv.1.kv ∧ KeyAt P kt kv.1 := by
  intro j e kv he hkv
  have hk := hall kv (List.mem_of_getElem? hkv)
  exact ⟨(h j kv e hkv (by simpa using he)).kv hk.isKey, hk⟩

/-- a map's block set anew -/
theorem mapSet {C : Ctx} {S : Nat → Prop} {w : World} {β : Names} {k r : Nat} {x : BoxC} {kvs : List (D × D)} (hi : Inv C S w β bx) (hb : (k, x) ∈ bx) (hbase : (β k).base = some r) (hlt : r < w.heap.size)
    (es : Array MapEntry) (clock : Nat) (hsz : MSz es clock kvs.length) (hes : ∀ (j : Nat) (kv : D × D) (e : MapEntry), kvs[j]? = some kv → es[j]? = some e → RepC S w kv.1 e.key ∧ RepC S w kv.2 e.val) :
    Inv C S { w with heap := w.heap.setIfInBounds r (.map es clock) } β ((k, .map kvs) :: berase k bx) ∧ SExt S w S { w with heap := w.heap.setIfInBounds r (.map es clock) } := by
  refine hi.setSame hb hbase (fun b' hb' => by simp [Array.getElem?_setIfInBounds, Ne.symm hb']) rfl rfl rfl (by simp) ?_
  have e0 : SExt S w S { w with heap := w.heap.setIfInBounds r (.map es clock) } :=
    ⟨fun _ h => h, fun b' hb' => by
      have : b' ≠ r := fun he => (hi.priv k _ hb r hbase).1 (he ▸ hb')
      simp [Array.getElem?_setIfInBounds, Ne.symm this]⟩
  exact ⟨r, es, clock, hbase, by simp [Array.getElem?_setIfInBounds, hlt], hsz, fun j kv e hk he => ⟨(hes j kv e hk he).1.ext e0, (hes j kv e hk he).2.ext e0⟩⟩

theorem kfind_lits (l : List Lit) : ∀ (kvs : List (D × D)) (i j : Nat) (d : D), kfind l kvs i = some (j, d) → ∃ k, i ≤ j ∧ kvs[j - i]? = some (k, d) ∧ l = k.lits
  | [], _, _, _, h => by simp [kfind] at h
  | kv :: r, i, j, d, h => by
    simp only [kfind] at h
    split at h
    · rename_i he
      simp only [Option.some.injEq, Prod.mk.injEq] at h
      obtain ⟨rfl, rfl⟩ := h
      exact ⟨kv.1, Nat.le_refl _, by simp, he⟩
    · obtain ⟨k, h1, h2, h3⟩ := kfind_lits l r (i + 1) j d h
      exact ⟨k, by omega, by rw [show j - i = (j - (i + 1)) + 1 by omega]; simpa using h2, h3⟩

theorem opT_mapUpdate {T kt et k : Nat} {m x y : Operand} (ho : o.op = .mapUpdate T m x y) {kvs : List (D × D)} {kd vd : D} (hm : ρ m = .mp k) (hb : (k, BoxC.map kvs) ∈ bx)
    (hT : P.underlying T = some (.map kt et)) (hkt : keyT P kt = true) (hx : asD (ρ x) = some kd) (hkd : KeyAt P kt kd) (hall : ∀ kv, kv ∈ kvs → KeyAt P kt kv.1) (hy : asD (ρ y) = some vd) :
    OpT P o ρ bx (.tuple []) ((k, .map (kput kd vd kvs)) :: berase k bx) [] := by
  intro C S w β a hi ha
  have hm1 := ha m (mo ho (by simp [Op.operands])); rw [hm] at hm1
  have hx1 := asD_rep (ha x (mo ho (by simp [Op.operands]))) hx
  have hy1 := asD_rep (ha y (mo ho (by simp [Op.operands]))) hy
  have hxv := hx1.kv hkd.isKey
  obtain ⟨r, es, clock, hbase, hh, hmz, hes⟩ := hi.box k _ hb
  have hsz := hmz.1
  generalize hmv : a.eval m = mv at hm1
  cases hm1 with
  | mp _ b hbase' =>
    rw [hbase] at hbase'; cases hbase'
    obtain ⟨q, hq, hf⟩ := find_key hkt w hkd es.toList kvs (by simpa using hsz) (entries_key hsz (fun r kv e h1 h2 => (hes r kv e h1 h2).1) hall)
    have hchk := keyT_check hkt false w hkd
    have hlt : r < w.heap.size := (hi.priv k _ hb r hbase).2.1
    rw [← hxv] at hq hchk
    unfold kput
    cases hfd : kfind kd.lits kvs 0 with
    | none =>
      rw [hfd] at hf
      simp only [Found] at hf
      subst hf
      obtain ⟨h1, h2⟩ := mapSet (kvs := kvs ++ [(kd, vd)]) hi hb hbase hlt (es.push { key := a.eval x, val := a.eval y, born := clock }) (clock + 1) ⟨by simp [hsz], hmz.2.push _ _⟩ (by
        intro j kv e hk he
        rw [List.getElem?_append] at hk
        rw [Array.getElem?_push] at he
        split at hk
        · rw [if_neg (by omega)] at he
          exact hes j kv e hk he
        · rename_i hj
          have hj2 : j - kvs.length = 0 := by
            have := (List.getElem?_eq_some_iff.1 hk).1
            simp at this; omega
          rw [hj2] at hk
          rw [if_pos (by omega)] at he
          simp only [List.getElem?_cons_zero, Option.some.injEq] at hk he
          subst hk he
          exact ⟨hx1, hy1⟩)
      unfold Oper.wp
      rw [show (execOp a.eval o).run P w = .ok .skip { w with heap := w.heap.setIfInBounds r (.map (es.push { key := a.eval x, val := a.eval y, born := clock }) (clock + 1)) } by
        simp [execOp, ho, hmv, Instr.mapUpdate, run_underlying hT, MapKept.run_getObj_map hh, hchk, hq, MapKept.run_setObj_map _ hh]]
      exact ⟨undef, S, β, rfl, h1, h2, .tuple [] [] rfl (by simp), fun _ _ => rfl⟩
    | some jd =>
      obtain ⟨j, d⟩ := jd
      rw [hfd] at hf
      obtain ⟨e, k', _, g1, g2, rfl⟩ := hf
      simp only [Nat.sub_zero, Array.getElem?_toList] at g1 g2
      have hek : e.key = a.eval x := by
        obtain ⟨p1, p2⟩ := entries_key hsz (fun r kv e h1 h2 => (hes r kv e h1 h2).1) hall j e (k', d) (by simpa using g1) g2
        obtain ⟨k2, _, q2, q3⟩ := kfind_lits _ _ _ _ _ hfd
        simp only [Nat.sub_zero] at q2
        rw [g2] at q2
        simp only [Option.some.injEq, Prod.mk.injEq, and_true] at q2
        subst q2
        rw [p1, hxv]
        exact (hkd.same p2 q3).symm
      have hstay : (Instr.keyThatStays (a.eval x) (a.eval x)).run P w = .ok (a.eval x) w := by
        rw [hxv]; simp [Instr.keyThatStays, sameBits_kv hkd.isKey]
      have hj : j < es.size := (Array.getElem?_eq_some_iff.1 g1).1
      obtain ⟨h1, h2⟩ := mapSet (kvs := kvs.set j (kd, vd)) hi hb hbase hlt (es.modify j fun e => { e with key := a.eval x, val := a.eval y }) clock ⟨by simp [hsz], hmz.2.modify _ _ (fun _ => rfl)⟩ (by
        intro i kv e' hk he
        rw [List.getElem?_set] at hk
        rw [Array.getElem?_modify] at he
        split at hk
        · rename_i hij
          subst hij
          rw [if_pos rfl, g1] at he
          simp only [Option.map_some, Option.some.injEq] at he
          split at hk
          · simp only [Option.some.injEq] at hk
            subst hk he
            exact ⟨hx1, hy1⟩
          · simp at hk
        · rename_i hij
          rw [if_neg hij] at he
          exact hes i kv e' hk he)
      unfold Oper.wp
      rw [show (execOp a.eval o).run P w = .ok .skip { w with heap := w.heap.setIfInBounds r (.map (es.modify j fun e => { e with key := a.eval x, val := a.eval y }) clock) } by
        simp [execOp, ho, hmv, Instr.mapUpdate, run_underlying hT, MapKept.run_getObj_map hh, hchk, hq, g1, hek, hstay, MapKept.run_setObj_map _ hh]]
      exact ⟨undef, S, β, rfl, h1, h2, .tuple [] [] rfl (by simp), fun _ _ => rfl⟩

/-! looking up -/
inductive IsMap (bx : Boxes) : SV → List (D × D) → Prop where
  | mp (k : Nat) (kvs : List (D × D)) : (k, BoxC.map kvs) ∈ bx → IsMap bx (.mp k) kvs
  | d (kvs : List (D × D)) : IsMap bx (.d (.map kvs)) kvs
theorem IsMap.rep {C : Ctx} {S : Nat → Prop} {w : World} {β : Names} {x : SV} {kvs : List (D × D)} {v : Value} (h : IsMap bx x kvs) (hi : Inv C S w β bx) (hv : RepV S w β x v) :
    ∃ r es clock, v = .map (some r) ∧ w.heap[r]? = some (.map es clock) ∧ es.size = kvs.length ∧ ∀ (j : Nat) (kv : D × D) (e : MapEntry), kvs[j]? = some kv → es[j]? = some e → RepC S w kv.1 e.key ∧ RepC S w kv.2 e.val := by
  cases h with
  | mp k kvs hb =>
    obtain ⟨r, es, clock, hbase, hh, hsz, hes⟩ := hi.box k _ hb
    cases hv with
    | mp _ b hbase' =>
      rw [hbase] at hbase'; cases hbase'
      exact ⟨r, es, clock, rfl, hh, hsz.1, hes⟩
  | d kvs =>
    cases hv with
    | d _ _ h =>
      cases h with
      | map _ r es clock hS hh hsz h1 h2 => exact ⟨r, es, clock, rfl, hh, hsz.1, fun j kv e hk he => ⟨h1 j kv e hk he, h2 j kv e hk he⟩⟩

def lookV (kd : D) (kvs : List (D × D)) (z : SV) : SV := match kfind kd.lits kvs 0 with
  | some (_, d) => ofD d
  | none => z
def lookR (ok : Bool) (kd : D) (kvs : List (D × D)) (z : SV) : SV := match ok with
  | true => .tuple [lookV kd kvs z, .d (.bool (kfind kd.lits kvs 0).isSome)]
  | false => lookV kd kvs z

theorem opT_lookup {T kt et : Nat} {m x : Operand} {ok : Bool} (ho : o.op = .lookup T m x ok) {kvs : List (D × D)} {kd : D} {z : SV} (hm : IsMap bx (ρ m) kvs)
    (hT : P.underlying T = some (.map kt et)) (hkt : keyT P kt = true) (hx : asD (ρ x) = some kd) (hkd : KeyAt P kt kd) (hall : ∀ kv, kv ∈ kvs → KeyAt P kt kv.1) (hz : zone P et = some z) :
    OpT P o ρ bx (lookR ok kd kvs z) bx [] := by
  refine OpT.of_value fun C S w β a hi ha => ?_
  have hx1 := asD_rep (ha x (mo ho (by simp [Op.operands]))) hx
  obtain ⟨r, es, clock, hmv, hh, hsz, hes⟩ := hm.rep hi (ha m (mo ho (by simp [Op.operands])))
  have hxv := hx1.kv hkd.isKey
  obtain ⟨q, hq, hf⟩ := find_key hkt w hkd es.toList kvs (by simpa using hsz) (entries_key hsz (fun r kv e h1 h2 => (hes r kv e h1 h2).1) hall)
  have hchk := keyT_check hkt es.isEmpty w hkd
  rw [← hxv] at hq hchk
  obtain ⟨zv, hzr, hzz⟩ := run_zone hz w
  cases hfd : kfind kd.lits kvs 0 with
  | none =>
    rw [hfd] at hf
    simp only [Found] at hf
    subst hf
    have hzrep : RepV S w β z zv := by rw [hzz]; exact repV_const S w β zv
    cases ok with
    | true =>
      refine ⟨.tuple #[zv, .bool false], by simp [execOp, ho, hmv, Instr.lookup, run_underlying hT, MapKept.run_getObj_map hh, hchk, hq, hzr], ?_⟩
      simp only [lookR, lookV, hfd, Option.isSome_none]
      exact .tuple _ _ rfl (RepL.cons hzrep (RepL.cons (.d _ _ (.bool _)) .nil)).2
    | false =>
      refine ⟨zv, by simp [execOp, ho, hmv, Instr.lookup, run_underlying hT, MapKept.run_getObj_map hh, hchk, hq, hzr], ?_⟩
      simpa only [lookR, lookV, hfd] using hzrep
  | some jd =>
    obtain ⟨j, d⟩ := jd
    rw [hfd] at hf
    obtain ⟨e, k', _, g1, g2, rfl⟩ := hf
    simp only [Nat.sub_zero, Array.getElem?_toList] at g1 g2
    have hrep : RepV S w β (ofD d) e.val := ofD_rep (hes j (k', d) e g2 g1).2
    cases ok with
    | true =>
      refine ⟨.tuple #[e.val, .bool true], by simp [execOp, ho, hmv, Instr.lookup, run_underlying hT, MapKept.run_getObj_map hh, hchk, hq], ?_⟩
      simp only [lookR, lookV, hfd, Option.isSome_some]
      exact .tuple _ _ rfl (RepL.cons hrep (RepL.cons (.d _ _ (.bool _)) .nil)).2
    | false =>
      refine ⟨e.val, by simp [execOp, ho, hmv, Instr.lookup, run_underlying hT, MapKept.run_getObj_map hh, hchk, hq], ?_⟩
      simpa only [lookR, lookV, hfd] using hrep
end Go.Abs
