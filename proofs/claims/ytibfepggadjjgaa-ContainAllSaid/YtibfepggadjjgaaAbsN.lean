/- The operations as one function: what is left to show. Own framework, part N. -/
import Derived.Test.YtibfepggadjjgaaAbsR
import Derived.IntWalk
namespace Go.Abs
open Go

variable {P : Program}

/-- int's own range -/
def InR (x : Int) : Prop := -9223372036854775808 ≤ x ∧ x < 9223372036854775808
theorem wrap_i64 {x : Int} (h : InR x) : IntKind.i64.wrap x = x := IntWalk.i64_in x (by unfold InR at h; omega)

def arK (op : BinOp) (k : IntKind) (x y : Int) (K : SV → Prop) : Prop :=
  match k, op with
  | .i64, .add => InR (x + y) ∧ K (.d (.int .i64 (x + y)))
  | .i64, .sub => InR (x - y) ∧ K (.d (.int .i64 (x - y)))
  | .i64, .mul => InR (x * y) ∧ K (.d (.int .i64 (x * y)))
  | .i64, .quo => y ≠ 0 ∧ InR (x.tdiv y) ∧ K (.d (.int .i64 (x.tdiv y)))
  | k, .add => K (.d (.int k (k.wrap (x + y))))
  | k, .sub => K (.d (.int k (k.wrap (x - y))))
  | k, .mul => K (.d (.int k (k.wrap (x * y))))
  | k, .quo => y ≠ 0 ∧ K (.d (.int k (k.wrap (x.tdiv y))))
  | k, .rem => y ≠ 0 ∧ K (.d (.int k (x.tmod y)))
  | _, .eql => K (.d (.bool (decide (x = y))))
  | _, .neq => K (.d (.bool (decide (x ≠ y))))
  | _, .lss => K (.d (.bool (decide (x < y))))
  | _, .leq => K (.d (.bool (decide (x ≤ y))))
  | _, .gtr => K (.d (.bool (decide (y < x))))
  | _, .geq => K (.d (.bool (decide (y ≤ x))))
  | _, _ => False

def isPtrT (P : Program) (t : TypeId) : Bool := (P.underlying t).any (fun d => match d with | .pointer _ => true | _ => false)
def isIfaceT (P : Program) (t : TypeId) : Bool := (P.underlying t).any (fun d => match d with | .interface _ => true | _ => false)

def strK : BinOp → Str → Str → (SV → Prop) → Prop
  | .add, a, b, K => a.length + b.length ≤ lim ∧ K (.d (.str (a ++ b)))
  | .eql, a, b, K => K (.d (.bool (decide (a = b))))
  | .neq, a, b, K => K (.d (.bool (decide (a ≠ b))))
  | .lss, a, b, K => K (.d (.bool (Op.bytesLess a b)))
  | .gtr, a, b, K => K (.d (.bool (Op.bytesLess b a)))
  | _, _, _, _ => False
def boolK : BinOp → Bool → Bool → (SV → Prop) → Prop
  | .eql, a, b, K => K (.d (.bool (a == b)))
  | .neq, a, b, K => K (.d (.bool (!(a == b))))
  | _, _, _, _ => False
def nilK : BinOp → Option Bool → (SV → Prop) → Prop
  | .eql, some b, K => K (.d (.bool b))
  | .neq, some b, K => K (.d (.bool (!b)))
  | _, _, _ => False

/-- numbers: shifts, whose count may be of another kind, and the rest -/
def intK (op : BinOp) (k j : IntKind) (a b : Int) (K : SV → Prop) : Prop :=
  match op with
  | .shr => 0 ≤ b ∧ K (.d (.int k (a.fdiv (2 ^ min b.toNat k.bits))))
  | .shl => 0 ≤ b ∧ K (.d (.int k (k.wrap (a * 2 ^ min b.toNat k.bits))))
  | op => k = j ∧ arK op k a b K
def binK (P : Program) (op : BinOp) (t : TypeId) : SV → SV → (SV → Prop) → Prop
  | .d (.int k a), .d (.int j b), K => intK op k j a b K
  | .d (.str a), .d (.str b), K => strK op a b K
  | .d (.bool a), .d (.bool b), K => P.underlying t = some .bool ∧ boolK op a b K
  | x, .d .nilptr, K => isPtrT P t = true ∧ nilK op (ptrNil x) K
  | x, .d .nil, K => (selem P t).isSome = true ∧ nilK op (sliceNil x) K
  | _, _, _ => False

/-- nothing but the result, and that all boxes stay -/
def Quiet (P : Program) (o : Oper) (sl : SL) (bx : Boxes) (K : SV → Prop) : Prop := ∃ r, OpT P o (opnd sl) bx r bx [] ∧ K r

variable {o : Oper} {sl : SL} {bx : Boxes} {K : SV → Prop}

theorem arK_sound {op : BinOp} {t u : TypeId} {x y : Operand} (ho : o.op = .binOp op t x y u) {k : IntKind} {a b : Int} (hx : opnd sl x = .d (.int k a)) (hy : opnd sl y = .d (.int k b)) (h : arK op k a b K) : Quiet P o sl bx K := by
  have cmp : ∀ {c : Bool}, cmpInt op a b = some c → K (.d (.bool c)) → Quiet P o sl bx K := fun hc hK => ⟨_, opT_cmpInt ho hx hy hc, hK⟩
  have ar : ∀ {c : Int}, arInt op k a b = some c → K (.d (.int k c)) → Quiet P o sl bx K := fun hc hK => ⟨_, opT_arInt ho hx hy hc, hK⟩
  have w : ∀ {z : Int}, k = .i64 → InR z → k.wrap z = z := fun hk hz => by subst hk; exact wrap_i64 hz
  unfold arK at h
  split at h
  · exact ar rfl (by rw [w rfl h.1]; exact h.2)
  · exact ar rfl (by rw [w rfl h.1]; exact h.2)
  · exact ar rfl (by rw [w rfl h.1]; exact h.2)
  · exact ⟨_, opT_quo ho hx hy h.1, by rw [w rfl h.2.1]; exact h.2.2⟩
  · exact ar rfl h
  · exact ar rfl h
  · exact ar rfl h
  · exact ⟨_, opT_quo ho hx hy h.1, h.2⟩
  · exact ⟨_, opT_rem ho hx hy h.1, h.2⟩
  · exact cmp rfl h
  · exact cmp rfl h
  · exact cmp rfl h
  · exact cmp rfl h
  · exact cmp rfl h
  · exact cmp rfl h
  · exact h.elim

theorem opT_shift {op : BinOp} {t u : TypeId} {x y : Operand} (ho : o.op = .binOp op t x y u) {k j : IntKind} {m n r : Int} (hx : opnd sl x = .d (.int k m)) (hy : opnd sl y = .d (.int j n)) (hn : 0 ≤ n)
    (hr : (op = .shr ∧ r = m.fdiv (2 ^ min n.toNat k.bits)) ∨ (op = .shl ∧ r = k.wrap (m * 2 ^ min n.toNat k.bits))) : OpT P o (opnd sl) bx (.d (.int k r)) bx [] :=
  .of_value fun _ _ w _ a _ ha => by
    have h1 := (ha x (mo ho (by simp [Op.operands, Call.operands]))); rw [hx] at h1; have h1 := h1.inv_int
    have h2 := (ha y (mo ho (by simp [Op.operands, Call.operands]))); rw [hy] at h2; have h2 := h2.inv_int
    refine ⟨.int k r, ?_, .int k r⟩
    have hn' : ¬ n < 0 := by omega
    rcases hr with ⟨rfl, rfl⟩ | ⟨rfl, rfl⟩ <;> simp [execOp, ho, h1, h2, eqGuard_int, binOp, Op.shift, hn']
theorem binK_sound {op : BinOp} {t u : TypeId} {x y : Operand} (ho : o.op = .binOp op t x y u) (h : binK P op t (opnd sl x) (opnd sl y) K) : Quiet P o sl bx K := by
  unfold binK at h
  split at h
  · rename_i hx hy
    unfold intK at h
    split at h
    · exact ⟨_, opT_shift ho hx hy h.1 (.inl ⟨rfl, rfl⟩), h.2⟩
    · exact ⟨_, opT_shift ho hx hy h.1 (.inr ⟨rfl, rfl⟩), h.2⟩
    · obtain ⟨rfl, h⟩ := h; exact arK_sound ho hx hy h
  · rename_i hx hy
    unfold strK at h
    split at h
    · exact ⟨_, opT_addStr ho hx hy h.1, h.2⟩
    · exact ⟨_, opT_cmpStr ho hx hy rfl, h⟩
    · exact ⟨_, opT_cmpStr ho hx hy rfl, h⟩
    · exact ⟨_, opT_cmpStr ho hx hy rfl, h⟩
    · exact ⟨_, opT_cmpStr ho hx hy rfl, h⟩
    · exact h.elim
  · rename_i hx hy
    obtain ⟨ht, h⟩ := h
    unfold boolK at h
    split at h
    · exact ⟨_, opT_cmpBool ho ht hx hy rfl, h⟩
    · exact ⟨_, opT_cmpBool ho ht hx hy rfl, h⟩
    · exact h.elim
  · rename_i hy
    obtain ⟨ht, h⟩ := h
    unfold nilK at h
    split at h
    · rename_i hb; exact ⟨_, opT_ptrNil ho ht hb hy rfl, h⟩
    · rename_i hb; exact ⟨_, opT_ptrNil ho ht hb hy rfl, h⟩
    · exact h.elim
  · rename_i hy
    obtain ⟨ht, h⟩ := h
    obtain ⟨e, ht⟩ := Option.isSome_iff_exists.1 ht
    unfold nilK at h
    split at h
    · rename_i hb; exact ⟨_, opT_sliceNil ho ht hb hy rfl, h⟩
    · rename_i hb; exact ⟨_, opT_sliceNil ho ht hb hy rfl, h⟩
    · exact h.elim
  · exact h.elim

/-! the quiet operations -/
def someK {α : Type} : Option α → (α → Prop) → Prop
  | some c, K => K c
  | none, _ => False
def fieldK : Option Nat → SV → (SV → Prop) → Prop
  | some d, .box k off, K => K (.box k (off + d))
  | some d, .dptr c off, K => K (.dptr c (off + d))
  | some d, .d (.ptr c), K => K (.dptr c (0 + d))
  | some d, .aptr k i off, K => K (.aptr k i (off + d))
  | _, _, _ => False

/-- a struct's field: where it lies, whether it is a struct, its size -/
def fplace (P : Program) (T : TypeId) (f : Nat) : Option (Nat × Bool × Nat) := match P.underlying T with
  | some (.struct fs) => match fs[f]? with
    | some fd => match tagg P fd.type, tsize P fd.type with
      | some b, some n => some (fd.offset, b, n)
      | _, _ => none
    | none => none
  | _ => none
def fieldVK : Option (Nat × Bool × Nat) → SV → (SV → Prop) → Prop
  | some (d, true, n), .agg cs, K => K (.agg (part cs d n))
  | some (d, false, _), .agg cs, K => someK (cs[d]?) K
  | _, _, _ => False
def indexRows : Option BoxC → Nat → Nat → Int → (SV → Prop) → Prop
  | some (.rows sz rows), q, m, i, K => sz = m ∧ 0 ≤ i ∧ i.toNat < rows.length ∧ K (.aptr q i.toNat 0)
  | _, _, _, _, _ => False
def indexK (bx : Boxes) : Option Nat → SV → SV → (SV → Prop) → Prop
  | some m, .d (.slice rows), .d (.int _ i), K => 0 ≤ i ∧ ∃ row, rows[i.toNat]? = some row ∧ row.length = m ∧ K (.dptr row 0)
  | some m, .acc q, .d (.int _ i), K => indexRows (bget bx q) q m i K
  | _, _, _, _ => False
/-- the size of a slice type's elements -/
def esize (P : Program) (T : Nat) : Option Nat := (selem P T).bind (tsize P)

def lenRows : Option BoxC → (SV → Prop) → Prop
  | some (.rows _ rows), K => K (.d (.int .i64 rows.length))
  | _, _ => False
def lenK (P : Program) (bx : Boxes) (T : Nat) : SV → (SV → Prop) → Prop
  | .d (.slice rows), K => (selem P T).isSome = true ∧ K (.d (.int .i64 rows.length))
  | .d .nil, K => (selem P T).isSome = true ∧ K (.d (.int .i64 0))
  | .d .emp, K => (selem P T).isSome = true ∧ K (.d (.int .i64 0))
  | .d (.str s), K => P.underlying T = some .string ∧ K (.d (.int .i64 s.length))
  | .acc q, K => (selem P T).isSome = true ∧ lenRows (bget bx q) K
  | _, _ => False

/-- a call by contract -/
def cloK (P : Program) (args : List SV) (bx : Boxes) : SV → (SV → Prop) → Prop
  | .clo f caps, K => ∃ r, ((∃ args', coerceL [] (args ++ caps) = some args' ∧ CallOK P f args' r ∧ r.closed = true) ∨ (∃ args', coerceL bx (args ++ caps) = some args' ∧ CallOK P f args' r ∧ r.scalar = true)) ∧ K r
  | _, _ => False
/-- a call: of a built-in that only reads, of a function by its contract -/
def callQK (P : Program) (sl : SL) (bx : Boxes) : Callee → List Operand → List TypeId → (SV → Prop) → Prop
  | .value fo, args, _, K => cloK P (args.map (opnd sl)) bx (opnd sl fo) K
  | .builtin .len, [x], [T], K => lenK P bx T (opnd sl x) K
  | _, _, _, _ => False

def pickK : SV → SV → SV → (SV → Prop) → Prop
  | .d (.bool t), x, y, K => K (if t then x else y)
  | _, _, _, _ => False
def notK : SV → (SV → Prop) → Prop
  | .d (.bool b), K => K (.d (.bool (!b)))
  | _, _ => False
def negK : SV → (SV → Prop) → Prop
  | .d (.int .i64 m), K => InR (0 - m) ∧ K (.d (.int .i64 (0 - m)))
  | _, _ => False
def byteK (P : Program) (T : Nat) : SV → SV → (SV → Prop) → Prop
  | .d (.str s), .d (.int _ i), K => P.underlying T = some .string ∧ 0 ≤ i ∧ ∃ c, s[i.toNat]? = some c ∧ K (.d (.int .u8 c.toNat))
  | _, _, _ => False
def extractK : SV → Nat → (SV → Prop) → Prop
  | .tuple xs, i, K => someK (xs[i]?) K
  | _, _, _ => False
def nilCheckK : SV → (SV → Prop) → Prop
  | .box k off, K => K (.box k off)
  | .dptr c off, K => K (.dptr c off)
  | .d (.ptr c), K => K (.d (.ptr c))
  | _, _ => False
def convK : Option TypeDesc → Option TypeDesc → SV → (SV → Prop) → Prop
  | some (.int _), some (.int k'), .d (.int _ m), K => K (.d (.int k' (k'.wrap m)))
  | some .string, some .string, .d (.str t), K => K (.d (.str t))
  | _, _, _, _ => False
def ifaceK (T : Nat) : SV → (SV → Prop) → Prop
  | .d y, K => K (.d (.iface T y))
  | .agg cs, K => ∃ ds, cs = ds.map SV.d ∧ K (.d (.iface T (.agg ds)))
  | _, _ => False
def buildK : Option (List SV) → Option (List (Nat × Nat)) → Option (List (Nat × List SV)) → (SV → Prop) → Prop
  | some zs, some ps, some l, K => someK (fillSV ps zs l) fun out => out.all SV.one = true ∧ K (.agg out)
  | _, _, _, _ => False
def buildSliceK (m np : Nat) : Option Nat → Option (List SV) → Option (List (List D)) → (List (List D) → Prop) → Prop
  | some sz, some zs, some rows, K => 1 ≤ sz ∧ zs.length = sz ∧ m * sz ≤ 16777216 ∧ np = m ∧ K rows
  | _, _, _, _ => False
/-- the element type -/
def elemOf' (P : Program) (T : Nat) : Nat := (selem P T).getD 0

/-! looking up in a map -/
def lookK2 (ok : Bool) (kd : D) (kvs : List (D × D)) (K : SV → Prop) (z : SV) : Prop := K (lookR ok kd kvs z)
def lookK1 (P : Program) (kt et : TypeId) (ok : Bool) (kvs : List (D × D)) (K : SV → Prop) (kd : D) : Prop :=
  KeyAt P kt kd ∧ someK (zone P et) (lookK2 ok kd kvs K)
def lookKB (P : Program) (kt et : TypeId) (ok : Bool) (x : SV) (K : SV → Prop) : Option BoxC → Prop
  | some (.map kvs) => keyT P kt = true ∧ (∀ kv, kv ∈ kvs → KeyAt P kt kv.1) ∧ someK (asD x) (lookK1 P kt et ok kvs K)
  | _ => False
def lookK (P : Program) (bx : Boxes) (ok : Bool) (x : SV) : Option TypeDesc → SV → (SV → Prop) → Prop
  | some (.map kt et), .mp k, K => lookKB P kt et ok x K (bget bx k)
  | some (.map kt et), .d (.map kvs), K => keyT P kt = true ∧ (∀ kv, kv ∈ kvs → KeyAt P kt kv.1) ∧ someK (asD x) (lookK1 P kt et ok kvs K)
  | _, _, _ => False

/-! parts of slices and strings -/
def loV : Option SV → Option Int
  | none => some 0
  | some (.d (.int _ i)) => some i
  | _ => none
def hiV (n : Nat) : Option SV → Option Int
  | none => some n
  | some (.d (.int _ i)) => some i
  | _ => none
def cutAt (n : Nat) (K : Nat → Nat → Prop) : Option Int → Option Int → Prop
  | some l, some h => 0 ≤ l ∧ l ≤ h ∧ h ≤ n ∧ K l.toNat h.toNat
  | _, _ => False
def cutRowsK (rows : List (List D)) (lo hi : Option SV) (K : SV → Prop) : Option Nat → Prop
  | some sz => (∀ row, row ∈ rows → row.length = sz) ∧ cutAt rows.length (fun l h => K (.d (.slice ((rows.take h).drop l)))) (loV lo) (hiV rows.length hi)
  | none => False
def cutK (P : Program) (T : TypeId) (lo hi : Option SV) : SV → (SV → Prop) → Prop
  | .d (.slice rows), K => cutRowsK rows lo hi K (esize P T)
  | .d (.str s), K => P.underlying T = some .string ∧ cutAt s.length (fun l h => K (.d (.str ((s.take h).drop l)))) (loV lo) (hiV s.length hi)
  | _, _ => False

/-- what is left to show of one operation that leaves the boxes alone -/
def quietK (P : Program) (sl : SL) (bx : Boxes) : Op → (SV → Prop) → Prop
  | .move x, K => K (opnd sl x)
  | .assign x, K => K (opnd sl x)
  | .pick c x y, K => pickK (opnd sl c) (opnd sl x) (opnd sl y) K
  | .load T x, K => someK (loadSV P bx T (opnd sl x)) K
  | .binOp op t x y _, K => binK P op t (opnd sl x) (opnd sl y) K
  | .unOp .not _ x, K => notK (opnd sl x) K
  | .unOp .neg _ x, K => negK (opnd sl x) K
  | .fieldAddr T x f, K => fieldK (foff P T f) (opnd sl x) K
  | .field T x f, K => fieldVK (fplace P T f) (opnd sl x) K
  | .indexAddr T x y, K => indexK bx (esize P T) (opnd sl x) (opnd sl y) K
  | .index T x y, K => byteK P T (opnd sl x) (opnd sl y) K
  | .extract x i, K => extractK (opnd sl x) i K
  | .nilCheck x, K => nilCheckK (opnd sl x) K
  | .convert s d x, K => convK (P.underlying s) (P.underlying d) (opnd sl x) K
  | .makeInterface T x, K => isIfaceT P T = false ∧ (P.underlying T).isSome = true ∧ ifaceK T (opnd sl x) K
  | .build T parts, K => buildK (tzero P T) (splaces P T) (partsSV (opnd sl) parts.toList) K
  | .buildSlice T m parts, K => (selem P T).isSome = true ∧ buildSliceK m parts.size (tsize P (elemOf' P T)) (tzero P (elemOf' P T)) (rowsOf (opnd sl) ((tsize P (elemOf' P T)).getD 0) 0 parts.toList) fun rows => K (.d (.slice rows))
  | .call c, K => callQK P sl bx c.callee c.args.toList c.argTypes.toList K
  | .makeFunc (.func f) ⟨[]⟩ caps, K => K (.clo f (caps.toList.map (opnd sl)))
  | .slice T x lo hi none, K => cutK P T (lo.map (opnd sl)) (hi.map (opnd sl)) (opnd sl x) K
  | .lookup T m x ok, K => lookK P bx ok (opnd sl x) (P.underlying T) (opnd sl m) K
  | _, _ => False

theorem callQK_sound {c : Call} (ho : o.op = .call c) (h : callQK P sl bx c.callee c.args.toList c.argTypes.toList K) : Quiet P o sl bx K := by
  obtain ⟨callee, args, tys⟩ := c
  simp only at h
  unfold callQK at h
  split at h
  · rename_i fo _ _ _
    unfold cloK at h
    split at h
    · rename_i hf
      obtain ⟨r, h1 | h1, hK⟩ := h
      · obtain ⟨args', h2, h3, h4⟩ := h1
        exact ⟨_, opT_call ho hf h2 h3 h4, hK⟩
      · obtain ⟨args', h2, h3, h4⟩ := h1
        exact ⟨_, opT_callLend ho hf h2 h3 h4, hK⟩
    · exact h.elim
  · rename_i x T hx hT
    have hx' : args = #[x] := by apply Array.ext'; simpa using hx
    have hT' : tys = #[T] := by apply Array.ext'; simpa using hT
    subst hx' hT'
    unfold lenK at h
    split at h
    · rename_i hx; obtain ⟨e, he⟩ := Option.isSome_iff_exists.1 h.1; exact ⟨_, opT_lenSlice ho hx he, h.2⟩
    · rename_i hx; obtain ⟨e, he⟩ := Option.isSome_iff_exists.1 h.1; exact ⟨_, opT_lenNil ho (.inl hx) he, h.2⟩
    · rename_i hx; obtain ⟨e, he⟩ := Option.isSome_iff_exists.1 h.1; exact ⟨_, opT_lenNil ho (.inr hx) he, h.2⟩
    · rename_i hx; exact ⟨_, opT_lenStr ho hx h.1, h.2⟩
    · rename_i hx
      obtain ⟨h1, h⟩ := h
      obtain ⟨e, he⟩ := Option.isSome_iff_exists.1 h1
      unfold lenRows at h
      split at h
      · rename_i hb; exact ⟨_, opT_lenAcc ho hx (mem_of_bget hb) he, h⟩
      · exact h.elim
    · exact h.elim
  · exact h.elim

theorem esize_spec {T m : Nat} (h : esize P T = some m) : ∃ e, selem P T = some e ∧ tsize P e = some m := by
  unfold esize at h
  cases he : selem P T with
  | none => simp [he] at h
  | some e => exact ⟨e, rfl, by simpa [he] using h⟩

theorem lookK_sound {T : TypeId} {m x : Operand} {ok : Bool} (ho : o.op = .lookup T m x ok) (h : lookK P bx ok (opnd sl x) (P.underlying T) (opnd sl m) K) : Quiet P o sl bx K := by
  have fin : ∀ {kt et : TypeId} {kvs : List (D × D)}, P.underlying T = some (.map kt et) → IsMap bx (opnd sl m) kvs → keyT P kt = true → (∀ kv, kv ∈ kvs → KeyAt P kt kv.1) → someK (asD (opnd sl x)) (lookK1 P kt et ok kvs K) → Quiet P o sl bx K := by
    intro kt et kvs hT hm hk hall h
    unfold someK at h
    split at h
    · rename_i hx
      obtain ⟨h1, h⟩ := h
      unfold someK at h
      split at h
      · rename_i hz; exact ⟨_, opT_lookup ho hm hT hk hx h1 hall hz, h⟩
      · exact h.elim
    · exact h.elim
  generalize hm : opnd sl m = vm at h
  generalize hT : P.underlying T = vT at h
  unfold lookK at h
  split at h
  · generalize hb : bget bx _ = ob at h
    unfold lookKB at h
    split at h
    · exact fin hT (by rw [hm]; exact .mp _ _ (mem_of_bget hb)) h.1 h.2.1 h.2.2
    · exact h.elim
  · exact fin hT (by rw [hm]; exact .d _) h.1 h.2.1 h.2.2
  · exact h.elim

theorem fieldVK_sound {T : TypeId} {x : Operand} {f : Nat} (ho : o.op = .field T x f) (h : fieldVK (fplace P T f) (opnd sl x) K) : Quiet P o sl bx K := by
  generalize hp : fplace P T f = pl at h
  unfold fplace at hp
  split at hp
  · rename_i fs hT
    split at hp
    · rename_i fd hf
      split at hp
      · rename_i b m ha hs
        subst hp
        unfold fieldVK at h
        split at h
        · rename_i hq hx
          simp only [Option.some.injEq, Prod.mk.injEq] at hq
          obtain ⟨hq1, hq2, hq3⟩ := hq
          subst hq1 hq2 hq3
          exact ⟨_, opT_fieldAgg ho hx hT hf rfl rfl ha hs, h⟩
        · rename_i hq hx
          simp only [Option.some.injEq, Prod.mk.injEq] at hq
          obtain ⟨hq1, hq2, hq3⟩ := hq
          subst hq1 hq2 hq3
          unfold someK at h
          split at h
          · rename_i hc; exact ⟨_, opT_fieldOne ho hx hT hf rfl rfl ha hc, h⟩
          · exact h.elim
        · exact h.elim
      · subst hp; exact h.elim
    · subst hp; exact h.elim
  · subst hp; exact h.elim

theorem loN_of {lo : Option Operand} {l : Int} (h : loV (lo.map (opnd sl)) = some l) (h0 : 0 ≤ l) : loN (opnd sl) lo = some l.toNat := by
  cases lo with
  | none => simp only [Option.map_none, loV, Option.some.injEq] at h; subst h; rfl
  | some y =>
    simp only [Option.map_some] at h
    unfold loN
    simp only
    generalize opnd sl y = v at h
    cases v <;> simp only [loV, reduceCtorEq] at h
    rename_i d
    cases d <;> simp only [loV, reduceCtorEq] at h
    simp only [Option.some.injEq] at h
    subst h
    simp [h0]
theorem hiN_of {hi : Option Operand} {n : Nat} {l : Int} (h : hiV n (hi.map (opnd sl)) = some l) (h0 : 0 ≤ l) : hiN (opnd sl) n hi = some l.toNat := by
  cases hi with
  | none => simp only [Option.map_none, hiV, Option.some.injEq] at h; subst h; rfl
  | some y =>
    simp only [Option.map_some] at h
    unfold hiN
    simp only
    generalize opnd sl y = v at h
    cases v <;> simp only [hiV, reduceCtorEq] at h
    rename_i d
    cases d <;> simp only [hiV, reduceCtorEq] at h
    simp only [Option.some.injEq] at h
    subst h
    simp [h0]
theorem cutAt_ex {n : Nat} {K : Nat → Nat → Prop} {a b : Option Int} (h : cutAt n K a b) : ∃ l k, a = some l ∧ b = some k ∧ 0 ≤ l ∧ l ≤ k ∧ k ≤ n ∧ K l.toNat k.toNat := by
  unfold cutAt at h
  split at h
  · exact ⟨_, _, rfl, rfl, h⟩
  · exact h.elim
theorem cutK_sound {T : TypeId} {x : Operand} {lo hi : Option Operand} (ho : o.op = .slice T x lo hi none) (h : cutK P T (lo.map (opnd sl)) (hi.map (opnd sl)) (opnd sl x) K) : Quiet P o sl bx K := by
  unfold cutK at h
  split at h
  · rename_i hx
    generalize hs : esize P T = os at h
    cases os with
    | none => exact h.elim
    | some sz =>
      obtain ⟨e, hT, hs⟩ := esize_spec hs
      obtain ⟨hr, h⟩ := h
      obtain ⟨l, k, h1, h2, h3, h4, h5, h6⟩ := cutAt_ex h
      exact ⟨_, opT_cutSlice ho hx hT hs hr (loN_of h1 h3) (hiN_of h2 (by omega)) (by omega) (by omega), h6⟩
  · rename_i hx
    obtain ⟨hT, h⟩ := h
    obtain ⟨l, k, h1, h2, h3, h4, h5, h6⟩ := cutAt_ex h
    exact ⟨_, opT_cutStr ho hx hT (loN_of h1 h3) (hiN_of h2 (by omega)) (by omega) (by omega), h6⟩
  · exact h.elim

theorem quietK_sound (h : quietK P sl bx o.op K) : Quiet P o sl bx K := by
  unfold quietK at h
  split at h
  · rename_i ho; exact ⟨_, opT_move ho, h⟩
  · rename_i ho; exact ⟨_, opT_assign ho, h⟩
  · rename_i ho
    unfold pickK at h
    split at h
    · rename_i hc; exact ⟨_, opT_pick ho hc, h⟩
    · exact h.elim
  · rename_i ho
    unfold someK at h
    split at h
    · rename_i hc; exact ⟨_, opT_load ho hc, h⟩
    · exact h.elim
  · rename_i ho; exact binK_sound ho h
  · rename_i ho
    unfold notK at h
    split at h
    · rename_i hc; exact ⟨_, opT_not ho hc, h⟩
    · exact h.elim
  · rename_i ho
    unfold negK at h
    split at h
    · rename_i hc
      refine ⟨_, opT_neg ho hc, ?_⟩
      rw [wrap_i64 h.1]; exact h.2
    · exact h.elim
  · rename_i ho
    unfold fieldK at h
    split at h
    · rename_i hf hx; exact ⟨_, opT_fieldBox ho hx hf, h⟩
    · rename_i hf hx; exact ⟨_, opT_fieldPtr ho (by rw [hx]; exact .dptr _ _) hf, h⟩
    · rename_i hf hx; exact ⟨_, opT_fieldPtr ho (by rw [hx]; exact .ptr _) hf, h⟩
    · rename_i hf hx; exact ⟨_, opT_fieldAptr ho hx hf, h⟩
    · exact h.elim
  · rename_i ho; exact fieldVK_sound ho h
  · rename_i ho
    unfold indexK at h
    split at h
    · rename_i hs hx hy
      obtain ⟨e, hT, hs⟩ := esize_spec hs
      obtain ⟨h0, row, hr, hl, hK⟩ := h
      exact ⟨_, opT_indexSlice ho hx hy hT hs h0 hr hl, hK⟩
    · rename_i hs hx hy
      obtain ⟨e, hT, hs⟩ := esize_spec hs
      generalize hb : bget bx _ = ob at h
      cases ob with
      | none => exact h.elim
      | some bc =>
        cases bc with
        | rows sz rows =>
          obtain ⟨h1, h2, h3, h4⟩ := h
          exact ⟨_, opT_indexAcc ho hx (mem_of_bget hb) hy hT hs h1 h2 h3, h4⟩
        | cells _ => exact h.elim
        | map _ => exact h.elim
    · exact h.elim
  · rename_i ho
    unfold byteK at h
    split at h
    · rename_i hx hy
      obtain ⟨h1, h2, c, h3, h4⟩ := h
      exact ⟨_, opT_indexStr ho hx hy h1 h2 h3, h4⟩
    · exact h.elim
  · rename_i ho
    unfold extractK at h
    split at h
    · rename_i hx
      unfold someK at h
      split at h
      · rename_i hr; exact ⟨_, opT_extract ho hx hr, h⟩
      · exact h.elim
    · exact h.elim
  · rename_i ho
    unfold nilCheckK at h
    split at h
    · rename_i hx; exact ⟨_, opT_nilBox ho hx, h⟩
    · rename_i hx; exact ⟨_, opT_nilPtr ho (by rw [hx]; exact .dptr _ _), by rw [hx]; exact h⟩
    · rename_i hx; exact ⟨_, opT_nilPtr ho (by rw [hx]; exact .ptr _), by rw [hx]; exact h⟩
    · exact h.elim
  · rename_i ho
    unfold convK at h
    split at h
    · rename_i hs hd hx; exact ⟨_, opT_convInt ho hs hd hx, h⟩
    · rename_i hs hd hx; exact ⟨_, opT_convStr ho hs hd hx, h⟩
    · exact h.elim
  · rename_i ho
    obtain ⟨h1, h2, h⟩ := h
    obtain ⟨d, hd⟩ := Option.isSome_iff_exists.1 h2
    have hn : (match d with | .interface _ => false | _ => true) = true := by
      unfold isIfaceT at h1
      rw [hd] at h1
      cases d <;> simp_all
    unfold ifaceK at h
    split at h
    · rename_i hx; exact ⟨_, opT_makeInterface ho hx hd hn, h⟩
    · rename_i hx
      obtain ⟨ds, h3, h4⟩ := h
      exact ⟨_, opT_makeInterfaceAgg ho (by rw [hx, h3]) hd hn, h4⟩
    · exact h.elim
  · rename_i ho
    unfold buildK at h
    split at h
    · rename_i hz hp hl
      unfold someK at h
      split at h
      · rename_i hf; exact ⟨_, opT_build ho hz hp hl hf h.1, h.2⟩
      · exact h.elim
    · exact h.elim
  · rename_i T m parts ho
    obtain ⟨h0, h⟩ := h
    obtain ⟨e, hT⟩ := Option.isSome_iff_exists.1 h0
    have he : elemOf' P T = e := by unfold elemOf'; rw [hT]; rfl
    rw [he] at h
    unfold buildSliceK at h
    split at h
    · rename_i hs hz hr
      obtain ⟨h0, h1, h2, h3, h4⟩ := h
      rw [hs] at hr
      have hlim : ∀ {m sz : Nat}, m * sz ≤ 16777216 → 1 ≤ sz → m ≤ lim := fun {m sz} h h' => by
        have : m * 1 ≤ m * sz := Nat.mul_le_mul_left _ h'
        unfold lim; omega
      exact ⟨_, opT_buildSlicePub ho hT hs hz h1 h2 h3 hr (hlim h2 h0), h4⟩
    · exact h.elim
  · rename_i ho; exact callQK_sound ho h
  · rename_i ho; exact ⟨_, opT_makeFunc ho, h⟩
  · rename_i ho; exact cutK_sound ho h
  · rename_i ho; exact lookK_sound ho h
  · exact h.elim

end Go.Abs
