/- A region's run as one function. Own framework, part O. -/
import Derived.Test.YtibfepggadjjgaaAbsN
namespace Go.Abs
open Go

variable {P : Program} {o : Oper} {sl : SL} {bx : Boxes}

def ebytes (P : Program) (e : TypeId) : Option Nat := (P.info? e).map (·.bytes)

abbrev KB := SV → Boxes → List Nat → Prop

def appRowsK (bytes sz : Nat) (xs : List (List D)) (bx : Boxes) (k : Nat) : Option BoxC → KB → Prop
  | some (.rows sz' rs), K => sz' = sz ∧ k ≤ 999999 ∧ (rs.length + xs.length) * bytes ≤ lim ∧ K (.acc k) ((k, .rows sz (rs ++ xs)) :: bpurge k (berase k bx)) [k]
  | _, _ => False
def appToK (bytes sz : Nat) (xs : List (List D)) (bx : Boxes) : SV → Option Nat → KB → Prop
  | .acc k, _, K => appRowsK bytes sz xs bx k (bget bx k) K
  | .d .nil, some k, K => k ≤ 999999 ∧ xs.length * bytes ≤ lim ∧ K (.acc k) ((k, .rows sz xs) :: bpurge k (berase k bx)) [k]
  | _, _, _ => False
def srcRowsK (bytes sz : Nat) (bx : Boxes) (x : SV) (dst : Option Nat) : Option BoxC → KB → Prop
  | some (.rows sz' xs), K => sz' = sz ∧ appToK bytes sz xs bx x dst K
  | _, _ => False
/-- the rows that are appended -/
def srcK (bytes sz : Nat) (bx : Boxes) (x : SV) (dst : Option Nat) : SV → KB → Prop
  | .d .nil, K => appToK bytes sz [] bx x dst K
  | .d .emp, K => appToK bytes sz [] bx x dst K
  | .d (.slice xs), K => (∀ row, row ∈ xs → row.length = sz) ∧ appToK bytes sz xs bx x dst K
  | .acc q, K => srcRowsK bytes sz bx x dst (bget bx q) K
  | _, _ => False
def appendK (bx : Boxes) (dst : Option Nat) (x y : SV) : Option Nat → Option (List SV) → Option Nat → KB → Prop
  | some sz, some zs, some bytes, K => zs.length = sz ∧ bytes ≠ 0 ∧ srcK bytes sz bx x dst y K
  | _, _, _, _ => False

def storeRowsK (bx : Boxes) (k i off : Nat) (us : List SV) : Option BoxC → KB → Prop
  | some (.rows sz rows), K => ∃ row ds, rows[i]? = some row ∧ us = ds.map SV.d ∧ off + us.length ≤ row.length ∧ K (.tuple []) ((k, .rows sz (rows.set i (setAll row off ds))) :: berase k bx) []
  | _, _ => False
def storeCellsK (bx : Boxes) (k off : Nat) (us : List SV) : Option BoxC → KB → Prop
  | some (.cells cs), K => off + us.length ≤ cs.length ∧ K (.tuple []) ((k, .cells (setAll cs off us)) :: berase k bx) []
  | _, _ => False
def storeK (bx : Boxes) (size : Option Nat) : SV → Option (List SV) → KB → Prop
  | .box k off, some us, K => size = some us.length ∧ storeCellsK bx k off us (bget bx k) K
  | .aptr k i off, some us, K => size = some us.length ∧ storeRowsK bx k i off us (bget bx k) K
  | _, _, _ => False

/-- a call that hands back a slice of its own -/
def cloAccK (P : Program) (args : List SV) (bx : Boxes) : SV → Option Nat → KB → Prop
  | .clo f caps, some k, K => k ≤ 999999 ∧ ∃ args' q sz rows, coerceL [] (args ++ caps) = some args' ∧ CallB P f args' [] (.acc q) [(q, .rows sz rows)] ∧ K (.acc k) ((k, .rows sz rows) :: bpurge k (berase k bx)) [k]
  | _, _, _ => False

def newBoxK (bx : Boxes) : Option Nat → Option (List SV) → KB → Prop
  | some k, some cs, K => k ≤ 999999 ∧ K (.box k 0) ((k, .cells (cs.map (spurge k))) :: bpurge k (berase k bx)) [k]
  | _, _, _ => False

def ownRowsK (bx : Boxes) : Option Nat → Option Nat → List (List D) → KB → Prop
  | some k, some sz, rows, K => k ≤ 999999 ∧ K (.acc k) ((k, .rows sz rows) :: bpurge k (berase k bx)) [k]
  | _, _, _, _ => False

def newMapK (bx : Boxes) : Option Nat → KB → Prop
  | some k, K => k ≤ 999999 ∧ K (.mp k) ((k, .map []) :: bpurge k (berase k bx)) [k]
  | _, _ => False
def updK2 (bx : Boxes) (k : Nat) (K : KB) (kvs : List (D × D)) (kd vd : D) : Prop := K (.tuple []) ((k, .map (kput kd vd kvs)) :: berase k bx) []
def updK1 (P : Program) (bx : Boxes) (k : Nat) (y : SV) (K : KB) (kt : TypeId) (kvs : List (D × D)) (kd : D) : Prop := KeyAt P kt kd ∧ someK (asD y) (updK2 bx k K kvs kd)
def updK (P : Program) (bx : Boxes) (k : Nat) (x y : SV) (K : KB) (kt : TypeId) : Option BoxC → Prop
  | some (.map kvs) => keyT P kt = true ∧ (∀ kv, kv ∈ kvs → KeyAt P kt kv.1) ∧ someK (asD x) (updK1 P bx k y K kt kvs)
  | _ => False
def mapUpdK (P : Program) (bx : Boxes) (x y : SV) : Option TypeDesc → SV → KB → Prop
  | some (.map kt _), .mp k, K => updK P bx k x y K kt (bget bx k)
  | _, _, _ => False
def sliceRowsK (bx : Boxes) (sz k : Nat) (i : Int) (K : KB) : Option BoxC → Prop
  | some (.rows sz' rs) => sz' = sz ∧ 0 ≤ i ∧ i ≤ rs.length ∧ K (.acc k) ((k, .rows sz (rs.drop i.toNat)) :: bpurge k (berase k bx)) [k]
  | _ => False
def sliceK (bx : Boxes) : Option Nat → SV → SV → KB → Prop
  | some sz, .acc k, .d (.int _ i), K => k ≤ 999999 ∧ sliceRowsK bx sz k i K (bget bx k)
  | _, _, _, _ => False

/-- a call that changes a box of the caller's -/
def lendKey : List SV → Option Nat
  | [] => none
  | .mp k :: _ => some k
  | .box k _ :: _ => some k
  | _ :: r => lendKey r
def isRows : BoxC → Bool
  | .rows _ _ => true
  | _ => false
theorem isRows_ne {c : BoxC} (h : isRows c = false) : ∀ sz rs, c ≠ .rows sz rs := by rintro sz rs rfl; simp [isRows] at h
def cloBoxK (P : Program) (args : List SV) (bx : Boxes) (k : Nat) : SV → Option BoxC → KB → Prop
  | .clo f caps, some c, K => isRows c = false ∧ c.closed = true ∧ ∃ args' r c', lendL k 1000000 (args ++ caps) = some args' ∧ isRows c' = false ∧ c'.closed = true ∧
      CallB P f args' [(1000000, c)] r [(1000000, c')] ∧ r.closed = true ∧ K r ((k, c') :: berase k bx) []
  | _, _, _ => False

def liftK (bx : Boxes) (K : KB) : SV → Prop := fun r => K r bx []
theorem liftK_app (bx : Boxes) (K : KB) (r : SV) : liftK bx K r = K r bx [] := rfl

def callVK (P : Program) (sl : SL) (bx : Boxes) (fo : Operand) (args : List Operand) (tys : List TypeId) : Option Nat → KB → Prop
  | none, K => callQK P sl bx (.value fo) args tys (liftK bx K)
  | some k, K => cloBoxK P (args.map (opnd sl)) bx k (opnd sl fo) (bget bx k) K

/-- a call: append, or by contract -/
def callK (P : Program) (own : Bool) (sl : SL) (bx : Boxes) (dst : Option Nat) : Callee → List Operand → List TypeId → KB → Prop
  | .builtin .append, [x, y], [T, U], K => notInt P U = true ∧ (selem P T).isSome = true ∧ appendK bx dst (opnd sl x) (opnd sl y) (tsize P (elemOf' P T)) (tzero P (elemOf' P T)) (ebytes P (elemOf' P T)) K
  | .value fo, args, tys, K => match own with
    | true => cloAccK P (args.map (opnd sl)) bx (opnd sl fo) dst K
    | false => callVK P sl bx fo args tys (lendKey (args.map (opnd sl))) K
  | c, args, tys, K => callQK P sl bx c args tys (liftK bx K)

def isAcc : SV → Bool
  | .acc _ => true
  | _ => false
def isOwn (own : List Nat) : Option Nat → Bool
  | some k => own.contains k
  | none => false

/-- what is left to show of one operation -/
def opK (P : Program) (own : List Nat) (dst : Option Nat) (sl : SL) (bx : Boxes) : Op → KB → Prop
  | .alloc T, K => newBoxK bx dst (tzero P T) K
  | .box _ x, K => newBoxK bx dst (content (opnd sl x)) K
  | .store T x y, K => storeK bx (tsize P T) (opnd sl x) (content (opnd sl y)) K
  | .call c, K => callK P (isOwn own dst) sl bx dst c.callee c.args.toList c.argTypes.toList K
  | .makeMap _ none, K => newMapK bx dst K
  | .mapUpdate T m x y, K => mapUpdK P bx (opnd sl x) (opnd sl y) (P.underlying T) (opnd sl m) K
  | .slice T x (some y) none none, K => match isAcc (opnd sl x) with
    | true => sliceK bx (esize P T) (opnd sl x) (opnd sl y) K
    | false => quietK P sl bx (.slice T x (some y) none none) (liftK bx K)
  | .buildSlice T m parts, K => match isOwn own dst with
    | true => (selem P T).isSome = true ∧ buildSliceK m parts.size (tsize P (elemOf' P T)) (tzero P (elemOf' P T)) (rowsOf (opnd sl) ((tsize P (elemOf' P T)).getD 0) 0 parts.toList) fun rows => ownRowsK bx dst (tsize P (elemOf' P T)) rows K
    | false => quietK P sl bx (.buildSlice T m parts) (liftK bx K)
  | op, K => quietK P sl bx op (liftK bx K)

theorem appToK_sound {T U e sz bytes : Nat} {x y : Operand} (ho : o.op = .call { callee := .builtin .append, args := #[x, y], argTypes := #[T, U] }) {xs : List (List D)} {K : KB} (hE : ElemT P T e sz bytes) (hU : notInt P U = true)
    (hs : IsSrc bx sz (opnd sl y) xs) (h : appToK bytes sz xs bx (opnd sl x) o.dst K) : ∃ r bx' pg, OpT P o (opnd sl) bx r bx' pg ∧ K r bx' pg := by
  generalize hx : opnd sl x = vx at h
  generalize hdd : o.dst = dd at h
  unfold appToK at h
  split at h
  · generalize hb : bget bx _ = ob at h
    cases ob with
    | none => exact h.elim
    | some bc =>
      cases bc with
      | rows sz' rs =>
        obtain ⟨h1, h0, h4, h5⟩ := h
        subst h1
        exact ⟨_, _, _, opT_appendAcc h0 ho hE hU hx (mem_of_bget hb) hs h4, h5⟩
      | cells _ => exact h.elim
      | map _ => exact h.elim
  · exact ⟨_, _, _, opT_appendNil h.1 ho hE hU hx hs h.2.1, h.2.2⟩
  · exact h.elim

theorem callK_sound {own : Bool} {c : Call} {K : KB} (ho : o.op = .call c) (h : callK P own sl bx o.dst c.callee c.args.toList c.argTypes.toList K) : ∃ r bx' pg, OpT P o (opnd sl) bx r bx' pg ∧ K r bx' pg := by
  have q : ∀ {K' : SV → Prop}, Quiet P o sl bx K' → (∀ r, K' r → K r bx []) → ∃ r bx' pg, OpT P o (opnd sl) bx r bx' pg ∧ K r bx' pg := by
    rintro K' ⟨r, h1, h2⟩ hk; exact ⟨r, bx, [], h1, hk r h2⟩
  obtain ⟨callee, args, tys⟩ := c
  simp only at h
  cases callee with
  | value fo =>
    simp only [callK] at h
    split at h
    · generalize hf : opnd sl fo = vf at h
      generalize hdd : o.dst = dd at h
      unfold cloAccK at h
      split at h
      · obtain ⟨h0, args', q, sz, rows, h1, h2, h3⟩ := h
        exact ⟨_, _, _, opT_callAcc h0 ho hf h1 h2, h3⟩
      · exact h.elim
    · unfold callVK at h
      split at h
      · exact q (callQK_sound (c := ⟨.value fo, args, tys⟩) ho h) fun _ h => h
      · generalize hf : opnd sl fo = vf at h
        generalize hb : bget bx _ = ob at h
        unfold cloBoxK at h
        split at h
        · obtain ⟨n1, n2, args', r, c', h1, n3, n4, h2, h3, h4⟩ := h
          exact ⟨_, _, _, opT_callBox ho hf (mem_of_bget hb) (by omega) (isRows_ne n1) (isRows_ne n3) n2 n4 h1 h2 h3, h4⟩
        · exact h.elim
  | invoke r m =>
    simp only [callK] at h
    exact q (callQK_sound (c := ⟨.invoke r m, args, tys⟩) ho h) fun _ h => h
  | builtin b =>
  unfold callK at h
  split at h
  · rename_i x y T U hcal hx hT
    simp only [Callee.builtin.injEq] at hcal
    subst hcal
    have hx' : args = #[x, y] := by apply Array.ext'; simpa using hx
    have hT' : tys = #[T, U] := by apply Array.ext'; simpa using hT
    subst hx' hT'
    obtain ⟨hU, h0, h⟩ := h
    obtain ⟨e, he⟩ := Option.isSome_iff_exists.1 h0
    have hee : elemOf' P T = e := by unfold elemOf'; rw [he]; rfl
    rw [hee] at h
    generalize hs : tsize P e = os at h
    generalize hz : tzero P e = oz at h
    generalize hb : ebytes P e = ob at h
    unfold appendK at h
    split at h
    · rename_i sz zs bytes
      obtain ⟨h1, h2, h⟩ := h
      have hE : ElemT P T e sz bytes := ⟨he, hs, by rw [hz]; simp [h1], hb, h2⟩
      generalize hy : opnd sl y = vy at h
      unfold srcK at h
      split at h
      · exact appToK_sound ho hE hU (by rw [hy]; exact .nil) h
      · exact appToK_sound ho hE hU (by rw [hy]; exact .emp) h
      · exact appToK_sound ho hE hU (by rw [hy]; exact .slice _ h.1) h.2
      · generalize hb : bget bx _ = ob at h
        cases ob with
        | none => exact h.elim
        | some bc =>
          cases bc with
          | rows sz' rs =>
            obtain ⟨h3, h⟩ := h
            subst h3
            exact appToK_sound ho hE hU (by rw [hy]; exact .acc _ _ (mem_of_bget hb)) h
          | cells _ => exact h.elim
          | map _ => exact h.elim
      · exact h.elim
    · exact h.elim
  · rename_i hcal; simp at hcal
  · exact q (callQK_sound (c := ⟨.builtin b, args, tys⟩) ho h) fun _ h => h

theorem opK_sound {own : List Nat} {K : KB} (h : opK P own o.dst sl bx o.op K) : ∃ r bx' pg, OpT P o (opnd sl) bx r bx' pg ∧ K r bx' pg := by
  have q : ∀ {K' : SV → Prop}, Quiet P o sl bx K' → (∀ r, K' r → K r bx []) → ∃ r bx' pg, OpT P o (opnd sl) bx r bx' pg ∧ K r bx' pg := by
    rintro K' ⟨r, h1, h2⟩ hk; exact ⟨r, bx, [], h1, hk r h2⟩
  generalize hop : o.op = op at h
  unfold opK at h
  split at h
  · generalize hz : tzero P _ = oz at h
    generalize hdd : o.dst = dd at h
    unfold newBoxK at h
    split at h
    · exact ⟨_, _, _, opT_alloc h.1 hop hz, h.2⟩
    · exact h.elim
  · generalize hz : content _ = oz at h
    generalize hdd : o.dst = dd at h
    unfold newBoxK at h
    split at h
    · exact ⟨_, _, _, opT_box h.1 hop hz, h.2⟩
    · exact h.elim
  · generalize hx : opnd sl _ = vx at h
    generalize hus : content _ = ous at h
    unfold storeK at h
    split at h
    · obtain ⟨hs, h⟩ := h
      generalize hb : bget bx _ = ob at h
      cases ob with
      | none => exact h.elim
      | some bc =>
        cases bc with
        | cells cs => exact ⟨_, _, _, opT_storeBox hop hx (mem_of_bget hb) hus hs h.1, h.2⟩
        | rows _ _ => exact h.elim
        | map _ => exact h.elim
    · obtain ⟨hs, h⟩ := h
      generalize hb : bget bx _ = ob at h
      cases ob with
      | none => exact h.elim
      | some bc =>
        cases bc with
        | rows sz rows =>
          obtain ⟨row, ds, h1, h2, h3, h4⟩ := h
          subst h2
          simp only [List.length_map] at hs h3
          exact ⟨_, _, _, opT_storeAptr hop hx (mem_of_bget hb) h1 hus hs h3, h4⟩
        | cells _ => exact h.elim
        | map _ => exact h.elim
    · exact h.elim
  · exact callK_sound hop h
  · generalize hdd : o.dst = dd at h
    unfold newMapK at h
    split at h
    · exact ⟨_, _, _, opT_makeMap h.1 hop, h.2⟩
    · exact h.elim
  · rename_i m x y
    generalize hm : opnd sl m = vm at h
    generalize hT : P.underlying _ = vT at h
    unfold mapUpdK at h
    split at h
    · generalize hb : bget bx _ = ob at h
      unfold updK at h
      split at h
      · obtain ⟨h1, h2, h⟩ := h
        generalize hx : asD (opnd sl x) = vx at h
        unfold someK at h
        split at h
        · obtain ⟨h3, h⟩ := h
          generalize hy : asD (opnd sl y) = vy at h
          unfold someK at h
          split at h
          · exact ⟨_, _, _, opT_mapUpdate hop hm (mem_of_bget hb) hT h1 hx h3 h2 hy, h⟩
          · exact h.elim
        · exact h.elim
      · exact h.elim
    · exact h.elim
  · split at h
    · generalize hx : opnd sl _ = vx at h
      generalize hy : opnd sl _ = vy at h
      generalize hs : esize P _ = vs at h
      unfold sliceK at h
      split at h
      · obtain ⟨h0, h⟩ := h
        generalize hb : bget bx _ = ob at h
        unfold sliceRowsK at h
        split at h
        · obtain ⟨rfl, h1, h2, h3⟩ := h
          obtain ⟨e, hT, hs⟩ := esize_spec hs
          exact ⟨_, _, _, opT_sliceAcc hop h0 hx (mem_of_bget hb) hy hT hs h1 h2, h3⟩
        · exact h.elim
      · exact h.elim
    · exact q (quietK_sound (by rw [hop]; exact h)) fun _ h => h
  · rename_i T m parts
    split at h
    · obtain ⟨h0, h⟩ := h
      obtain ⟨e, hT⟩ := Option.isSome_iff_exists.1 h0
      have he : elemOf' P T = e := by unfold elemOf'; rw [hT]; rfl
      rw [he] at h
      generalize hs : tsize P e = os at h
      generalize hz : tzero P e = oz at h
      generalize hr : rowsOf _ _ _ _ = orr at h
      generalize hdd : o.dst = dd at h
      unfold buildSliceK at h
      split at h
      · obtain ⟨h0, h1, h2, h3, h4⟩ := h
        unfold ownRowsK at h4
        split at h4
        · rename_i hss
          simp only [Option.some.injEq] at hss
          subst hss
          have hlim : ∀ {m sz : Nat}, m * sz ≤ 16777216 → 1 ≤ sz → m ≤ lim := fun {m sz} h h' => by
            have : m * 1 ≤ m * sz := Nat.mul_le_mul_left _ h'
            unfold lim; omega
          exact ⟨_, _, _, opT_buildSliceOwn h4.1 hop hT hs hz h1 h2 h3 hr (hlim h2 h0), h4.2⟩
        · exact h4.elim
      · exact h.elim
    · exact q (quietK_sound (by rw [hop]; exact h)) fun _ h => h
  · exact q (quietK_sound (by rw [hop]; exact h)) fun _ h => h

/-! the run of a region -/
def guardK (b want : Bool) (A B : Prop) : Prop := (b = want → A) ∧ (b = !want → B)

def runV (P : Program) (own : List Nat) (ops : Array Oper) : List Oper → SL → Boxes → (SL → Boxes → Prop) → Prop
  | [], sl, bx, K => K sl bx
  | o :: os, sl, bx, K => match o.guard with
    | none => opK P own o.dst sl bx o.op fun r bx' pg => runV P own ops os (sput (purgeSl pg sl) o.dst r) bx' K
    | some (j, want) => match gslot ops j with
      | some t => match sget sl t with
        | .d (.bool b) => guardK b want (opK P own o.dst sl bx o.op fun r bx' pg => runV P own ops os (sput (purgeSl pg sl) o.dst r) bx' K) (runV P own ops os (sput sl o.dst (.tuple [])) bx K)
        | .tuple [] => runV P own ops os (sput sl o.dst (.tuple [])) bx K
        | _ => False
      | none => False

/-- the rest of a region, behind an operation -/
def restV (P : Program) (own : List Nat) (ops : Array Oper) (os : List Oper) (sl : SL) (dst : Option Nat) (K : SL → Boxes → Prop) : KB := fun r bx pg => runV P own ops os (sput (purgeSl pg sl) dst r) bx K
def gselV (P : Program) (own : List Nat) (ops : Array Oper) (dst : Option Nat) (op : Op) (os : List Oper) (sl : SL) (bx : Boxes) (want : Bool) (K : SL → Boxes → Prop) : SV → Prop
  | .d (.bool b) => guardK b want (opK P own dst sl bx op (restV P own ops os sl dst K)) (runV P own ops os (sput sl dst (.tuple [])) bx K)
  | .tuple [] => runV P own ops os (sput sl dst (.tuple [])) bx K
  | _ => False
def gslV (P : Program) (own : List Nat) (ops : Array Oper) (dst : Option Nat) (op : Op) (os : List Oper) (sl : SL) (bx : Boxes) (want : Bool) (K : SL → Boxes → Prop) : Option Nat → Prop
  | some t => gselV P own ops dst op os sl bx want K (sget sl t)
  | none => False
def gbV (P : Program) (own : List Nat) (ops : Array Oper) (dst : Option Nat) (op : Op) (os : List Oper) (sl : SL) (bx : Boxes) (K : SL → Boxes → Prop) (b want : Bool) : Prop :=
  guardK b want (opK P own dst sl bx op (restV P own ops os sl dst K)) (runV P own ops os (sput sl dst (.tuple [])) bx K)

section
variable (P : Program) (own : List Nat) (ops : Array Oper) (os : List Oper) (sl : SL) (bx : Boxes) (K : SL → Boxes → Prop) (dst : Option Nat) (op : Op) (ty : TypeId) (pos : String) (after : Array Edge)
theorem runV_nil : runV P own ops [] sl bx K = K sl bx := by rw [runV]
theorem runV_cons : runV P own ops (⟨dst, op, ty, pos, after, none⟩ :: os) sl bx K = opK P own dst sl bx op (restV P own ops os sl dst K) := by rw [runV]; rfl
theorem runV_guard (j : Nat) (want : Bool) : runV P own ops (⟨dst, op, ty, pos, after, some (j, want)⟩ :: os) sl bx K = gslV P own ops dst op os sl bx want K (gslot ops j) := by
  rw [runV]
  simp only
  cases gslot ops j with
  | none => rfl
  | some t =>
    simp only [gslV, gselV]
    split <;> rfl
theorem restV_app (r : SV) (pg : List Nat) : restV P own ops os sl dst K r bx pg = runV P own ops os (sput (purgeSl pg sl) dst r) bx K := rfl
theorem gselV_bool (b want : Bool) : gselV P own ops dst op os sl bx want K (.d (.bool b)) = gbV P own ops dst op os sl bx K b want := rfl
theorem gselV_skip (want : Bool) : gselV P own ops dst op os sl bx want K (.tuple []) = runV P own ops os (sput sl dst (.tuple [])) bx K := rfl
theorem gbV_tt : gbV P own ops dst op os sl bx K true true = opK P own dst sl bx op (restV P own ops os sl dst K) := by simp [gbV, guardK]
theorem gbV_ff : gbV P own ops dst op os sl bx K false false = opK P own dst sl bx op (restV P own ops os sl dst K) := by simp [gbV, guardK]
theorem gbV_tf : gbV P own ops dst op os sl bx K true false = runV P own ops os (sput sl dst (.tuple [])) bx K := by simp [gbV, guardK]
theorem gbV_ft : gbV P own ops dst op os sl bx K false true = runV P own ops os (sput sl dst (.tuple [])) bx K := by simp [gbV, guardK]
theorem gbV_split {b want : Bool} (h1 : b = want → opK P own dst sl bx op (restV P own ops os sl dst K)) (h2 : b = !want → runV P own ops os (sput sl dst (.tuple [])) bx K) : gbV P own ops dst op os sl bx K b want := ⟨h1, h2⟩
end

/-- the first operations of a drawn region: the boxes stay -/
def qrunV (P : Program) (own : List Nat) (ops : Array Oper) (bx : Boxes) : List Oper → SL → (SL → Prop) → Prop
  | [], sl, K => K sl
  | o :: os, sl, K => match o.guard with
    | none => quietK P sl bx o.op fun r => qrunV P own ops bx os (sput sl o.dst r) K
    | some (j, want) => match gslot ops j with
      | some t => match sget sl t with
        | .d (.bool b) => guardK b want (quietK P sl bx o.op fun r => qrunV P own ops bx os (sput sl o.dst r) K) (qrunV P own ops bx os (sput sl o.dst (.tuple [])) K)
        | .tuple [] => qrunV P own ops bx os (sput sl o.dst (.tuple [])) K
        | _ => False
      | none => False
def restQV (P : Program) (own : List Nat) (ops : Array Oper) (bx : Boxes) (os : List Oper) (sl : SL) (dst : Option Nat) (K : SL → Prop) : SV → Prop := fun r => qrunV P own ops bx os (sput sl dst r) K
def gselQ (P : Program) (own : List Nat) (ops : Array Oper) (bx : Boxes) (dst : Option Nat) (op : Op) (os : List Oper) (sl : SL) (want : Bool) (K : SL → Prop) : SV → Prop
  | .d (.bool b) => guardK b want (quietK P sl bx op (restQV P own ops bx os sl dst K)) (qrunV P own ops bx os (sput sl dst (.tuple [])) K)
  | .tuple [] => qrunV P own ops bx os (sput sl dst (.tuple [])) K
  | _ => False
def gslQ (P : Program) (own : List Nat) (ops : Array Oper) (bx : Boxes) (dst : Option Nat) (op : Op) (os : List Oper) (sl : SL) (want : Bool) (K : SL → Prop) : Option Nat → Prop
  | some t => gselQ P own ops bx dst op os sl want K (sget sl t)
  | none => False
def gbQ (P : Program) (own : List Nat) (ops : Array Oper) (bx : Boxes) (dst : Option Nat) (op : Op) (os : List Oper) (sl : SL) (K : SL → Prop) (b want : Bool) : Prop :=
  guardK b want (quietK P sl bx op (restQV P own ops bx os sl dst K)) (qrunV P own ops bx os (sput sl dst (.tuple [])) K)
section
variable (P : Program) (own : List Nat) (ops : Array Oper) (os : List Oper) (sl : SL) (bx : Boxes) (K : SL → Prop) (dst : Option Nat) (op : Op) (ty : TypeId) (pos : String) (after : Array Edge)
theorem qrunV_nil : qrunV P own ops bx [] sl K = K sl := by rw [qrunV]
theorem qrunV_cons : qrunV P own ops bx (⟨dst, op, ty, pos, after, none⟩ :: os) sl K = quietK P sl bx op (restQV P own ops bx os sl dst K) := by rw [qrunV]; rfl
theorem qrunV_guard (j : Nat) (want : Bool) : qrunV P own ops bx (⟨dst, op, ty, pos, after, some (j, want)⟩ :: os) sl K = gslQ P own ops bx dst op os sl want K (gslot ops j) := by
  rw [qrunV]
  simp only
  cases gslot ops j with
  | none => rfl
  | some t =>
    simp only [gslQ, gselQ]
    split <;> rfl
theorem restQV_app (r : SV) : restQV P own ops bx os sl dst K r = qrunV P own ops bx os (sput sl dst r) K := rfl
theorem gselQ_bool (b want : Bool) : gselQ P own ops bx dst op os sl want K (.d (.bool b)) = gbQ P own ops bx dst op os sl K b want := rfl
theorem gselQ_skip (want : Bool) : gselQ P own ops bx dst op os sl want K (.tuple []) = qrunV P own ops bx os (sput sl dst (.tuple [])) K := rfl
theorem gbQ_tt : gbQ P own ops bx dst op os sl K true true = quietK P sl bx op (restQV P own ops bx os sl dst K) := by simp [gbQ, guardK]
theorem gbQ_ff : gbQ P own ops bx dst op os sl K false false = quietK P sl bx op (restQV P own ops bx os sl dst K) := by simp [gbQ, guardK]
theorem gbQ_tf : gbQ P own ops bx dst op os sl K true false = qrunV P own ops bx os (sput sl dst (.tuple [])) K := by simp [gbQ, guardK]
theorem gbQ_ft : gbQ P own ops bx dst op os sl K false true = qrunV P own ops bx os (sput sl dst (.tuple [])) K := by simp [gbQ, guardK]
theorem gbQ_split {b want : Bool} (h1 : b = want → quietK P sl bx op (restQV P own ops bx os sl dst K)) (h2 : b = !want → qrunV P own ops bx os (sput sl dst (.tuple [])) K) : gbQ P own ops bx dst op os sl K b want := ⟨h1, h2⟩
end

theorem guard_cases {ops : Array Oper} {A B : Prop} (h : match o.guard with
    | none => A
    | some (j, want) => match gslot ops j with
      | some t => match sget sl t with
        | .d (.bool b) => guardK b want A B
        | .tuple [] => B
        | _ => False
      | none => False) : ∃ g, guardV ops sl o = some g ∧ (g = true → A) ∧ (g = false → B) := by
  unfold guardV
  cases hg : o.guard with
  | none =>
    simp only [hg] at h
    exact ⟨true, rfl, fun _ => h, by simp⟩
  | some jw =>
    obtain ⟨j, want⟩ := jw
    simp only [hg] at h
    cases hj : gslot ops j with
    | none => simp only [hj] at h
    | some t =>
      simp only [hj] at h ⊢
      split at h
      · rename_i b hs
        refine ⟨b == want, by rw [hs], fun hb => h.1 (by simpa using hb), fun hb => h.2 ?_⟩
        cases b <;> cases want <;> simp_all
      · rename_i hs
        exact ⟨false, by rw [hs], by simp, fun _ => h⟩
      · exact h.elim

theorem runV_sound {n : Nat} {own : List Nat} {ops : Array Oper} {K : SL → Boxes → Prop} : ∀ (os : List Oper) (sl : SL) (bx : Boxes), dstsOK n os = true → runV P own ops os sl bx K → Run P n ops os sl bx K
  | [], sl, bx, _, h => by rw [runV] at h; exact h
  | o :: os, sl, bx, hd, h => by
    simp only [dstsOK, List.all_cons, Bool.and_eq_true] at hd
    rw [runV] at h
    obtain ⟨g, h1, h2, h3⟩ := guard_cases h
    refine ⟨g, h1, dstsOK_spec (ops := [o]) (by simp [dstsOK, hd.1]) o (by simp), fun hg => ?_, fun hg => runV_sound os _ bx hd.2 (h3 hg)⟩
    obtain ⟨r, bx', pg, q1, q2⟩ := opK_sound (h2 hg)
    exact ⟨r, bx', pg, q1, runV_sound os _ bx' hd.2 q2⟩

theorem qrunV_sound {n : Nat} {own : List Nat} {ops : Array Oper} {K K' : SL → Prop} (hK : ∀ sl, K sl → K' sl) : ∀ (os : List Oper) (sl : SL), dstsOK n os = true → qrunV P own ops bx os sl K → QRun P n ops os sl bx K'
  | [], sl, _, h => by rw [qrunV] at h; exact hK sl h
  | o :: os, sl, hd, h => by
    simp only [dstsOK, List.all_cons, Bool.and_eq_true] at hd
    rw [qrunV] at h
    obtain ⟨g, h1, h2, h3⟩ := guard_cases h
    refine ⟨g, h1, dstsOK_spec (ops := [o]) (by simp [dstsOK, hd.1]) o (by simp), fun hg => ?_, fun hg => qrunV_sound hK os _ hd.2 (h3 hg)⟩
    obtain ⟨r, q1, q2⟩ := quietK_sound (h2 hg)
    exact ⟨r, q1, qrunV_sound hK os _ hd.2 q2⟩

/-- behind a region: only what is used later -/
def keepK (ks : List Nat) (K : SL → Boxes → Prop) : SL → Boxes → Prop := fun sl bx => K (keepSl ks sl) (keepBx ks bx)
theorem keepK_app (ks : List Nat) (K : SL → Boxes → Prop) (sl : SL) (bx : Boxes) : keepK ks K sl bx = K (keepSl ks sl) (keepBx ks bx) := rfl
def consBx (k : Nat) : Option BoxC → Boxes → Boxes
  | some c, r => (k, c) :: r
  | none, r => r
theorem keepBx_cons (k : Nat) (ks : List Nat) (bx : Boxes) : keepBx (k :: ks) bx = consBx k (bget bx k) (keepBx ks bx) := by
  rw [keepBx]; cases bget bx k <;> rfl
theorem keepBx_nil (bx : Boxes) : keepBx [] bx = [] := rfl
/-- behind a drawn region's first operations: the others -/
def tailV (P : Program) (own : List Nat) (ops : Array Oper) (os : List Oper) (bx : Boxes) (K : SL → Boxes → Prop) : SL → Prop := fun sl => runV P own ops os sl bx K
theorem tailV_app (P : Program) (own : List Nat) (ops : Array Oper) (os : List Oper) (bx : Boxes) (K : SL → Boxes → Prop) (sl : SL) : tailV P own ops os bx K sl = runV P own ops os sl bx K := rfl

theorem AWp.reg {n : Nat} {Q : Exit → SL → Boxes → Prop} {id : Nat} {ops : Array Oper} (ks own : List Nat) (hd : dstsOK n ops.toList = true)
    (h : runV P own ops ops.toList sl bx (keepK ks (Q .normal))) : AWp P n (.region id ops false) Q sl bx :=
  AWp.region ks ks hd (runV_sound _ _ _ hd h)

theorem AWp.regD {n : Nat} {Q : Exit → SL → Boxes → Prop} {id : Nat} {ops : Array Oper} (ks own : List Nat) (m : Nat) (hm : P.follows .mixedOrders = true) (hc : drawOK ops m (Region.before ops) = true) (hd : dstsOK n ops.toList = true)
    (h : qrunV P own ops bx (ops.toList.take m) sl (tailV P own ops (ops.toList.drop m) bx (keepK ks (Q .normal)))) : AWp P n (.region id ops true) Q sl bx := by
  have hd1 : dstsOK n (ops.toList.take m) = true := by
    unfold dstsOK at *; rw [List.all_eq_true] at *; exact fun o ho => hd o (List.mem_of_mem_take ho)
  have hd2 : dstsOK n (ops.toList.drop m) = true := by
    unfold dstsOK at *; rw [List.all_eq_true] at *; exact fun o ho => hd o (List.mem_of_mem_drop ho)
  exact AWp.regionDraw m _ ks ks hm hc hd (qrunV_sound (fun sl1 h => runV_sound _ _ _ hd2 h) _ _ hd1 h)

end Go.Abs
