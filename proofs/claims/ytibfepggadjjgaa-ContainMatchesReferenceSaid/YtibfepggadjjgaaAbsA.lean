/- Abstract data: values of the program read as plain data in immutable blocks. Own framework, part A. -/
import Derived.Calls
import Derived.Below
import Derived.Laws.Rows
import Derived.Laws.Cells
import Derived.Laws.World
import Derived.Laws.Append
namespace Go.Abs
open Go

abbrev Str := List UInt8
/-- a string's bytes as the model's string -/
def mkStr (s : Str) : ByteArray := ⟨⟨s⟩⟩
theorem mkStr_data (b : ByteArray) : mkStr b.data.toList = b := rfl
theorem mkStr_size (s : Str) : (mkStr s).size = s.length := rfl
/-- the greatest length of a slice or a string -/
def lim : Nat := 140737488355328

inductive D where
  | int (k : IntKind) (n : Int)
  | bool (b : Bool)
  | str (s : Str)
  | nil
  | emp
  | slice (rows : List (List D))
  | agg (cells : List D)
  | ptr (cells : List D)
  | nilptr
  | map (kvs : List (D × D))
  | nilmap
  | iface (t : TypeId) (x : D)
  | niliface

instance : Inhabited D := ⟨.nil⟩

def D.one : D → Bool
  | .agg _ => false
  | _ => true

/-- the entries of a map, each laid at a time of its own -/
def BornOK (es : Array MapEntry) (clock : Nat) : Prop := (∀ x, x ∈ es.toList → x.born < clock) ∧ (es.toList.map (·.born)).Nodup
def MSz (es : Array MapEntry) (clock n : Nat) : Prop := es.size = n ∧ BornOK es clock
theorem BornOK.push {es : Array MapEntry} {clock : Nat} (h : BornOK es clock) (k v : Value) : BornOK (es.push { key := k, val := v, born := clock }) (clock + 1) := by
  refine ⟨?_, ?_⟩
  · intro x hx
    simp only [Array.toList_push, List.mem_append, List.mem_cons, List.not_mem_nil, or_false] at hx
    rcases hx with hx | rfl
    · have := h.1 x hx; omega
    · simp
  · simp only [Array.toList_push, List.map_append, List.map_cons, List.map_nil]
    rw [List.nodup_append]
    refine ⟨h.2, by simp, ?_⟩
    intro a ha b hb
    obtain ⟨x, hx, rfl⟩ := List.mem_map.1 ha
    simp only [List.mem_cons, List.not_mem_nil, or_false] at hb
    have := h.1 x hx; omega
theorem BornOK.modify {es : Array MapEntry} {clock : Nat} (h : BornOK es clock) (j : Nat) (f : MapEntry → MapEntry) (hf : ∀ e, (f e).born = e.born) : BornOK (es.modify j f) clock := by
  have hm : (es.modify j f).toList.map (·.born) = es.toList.map (·.born) := by
    apply List.ext_getElem?
    intro i
    simp only [List.getElem?_map, Array.getElem?_toList, Array.getElem?_modify]
    split
    · cases es[i]? <;> simp [hf]
    · rfl
  refine ⟨?_, by rw [hm]; exact h.2⟩
  intro x hx
  have : x.born ∈ es.toList.map (·.born) := by rw [← hm]; exact List.mem_map_of_mem hx
  obtain ⟨y, hy, hxy⟩ := List.mem_map.1 this
  rw [← hxy]; exact h.1 y hy

/-- a value reads as data; all memory that it reaches lies in blocks of S -/
inductive RepC (S : Nat → Prop) (w : World) : D → Value → Prop where
  | int (k : IntKind) (n : Int) : RepC S w (.int k n) (.int k n)
  | bool (b : Bool) : RepC S w (.bool b) (.bool b)
  | str (s : Str) : s.length ≤ lim → RepC S w (.str s) (.string (mkStr s))
  | nil : RepC S w .nil (.slice none 0 0)
  | emp (a : Addr) (cap : Nat) : RepC S w .emp (.slice (some a) 0 cap)
  | slice0 (a : Option Addr) (cap : Nat) : (a = none → cap = 0) → RepC S w (.slice []) (.slice a 0 cap)
  | slice (rows : List (List D)) (b off cap sz : Nat) : S b → rows.length ≤ lim → rows.length ≤ cap →
      (∀ row, row ∈ rows → row.length = sz) → (∀ row, row ∈ rows → ∀ d, d ∈ row → d.one = true) →
      (∀ i j, i < rows.length → j < sz → ∃ v, w.cell? ⟨b, off + (i * sz + j), none⟩ = some v) →
      (∀ (i j : Nat) (row : List D) (d : D) (v : Value), rows[i]? = some row → row[j]? = some d → w.cell? ⟨b, off + (i * sz + j), none⟩ = some v → RepC S w d v) →
      RepC S w (.slice rows) (.slice (some ⟨b, off, none⟩) rows.length cap)
  | agg (cells : List D) (vs : List Value) : vs.length = cells.length → (∀ d, d ∈ cells → d.one = true) →
      (∀ (j : Nat) (d : D) (v : Value), cells[j]? = some d → vs[j]? = some v → RepC S w d v) →
      RepC S w (.agg cells) (.agg ⟨vs⟩)
  | ptr (cells : List D) (b : Nat) : S b → (∀ d, d ∈ cells → d.one = true) → (∀ j, j < cells.length → ∃ v, w.cell? ⟨b, j, none⟩ = some v) →
      (∀ (j : Nat) (d : D) (v : Value), cells[j]? = some d → w.cell? ⟨b, j, none⟩ = some v → RepC S w d v) →
      RepC S w (.ptr cells) (.pointer (some ⟨b, 0, none⟩))
  | nilptr : RepC S w .nilptr (.pointer none)
  | map (kvs : List (D × D)) (r : Nat) (es : Array MapEntry) (clock : Nat) : S r → w.heap[r]? = some (.map es clock) → MSz es clock kvs.length →
      (∀ (i : Nat) (kv : D × D) (e : MapEntry), kvs[i]? = some kv → es[i]? = some e → RepC S w kv.1 e.key) →
      (∀ (i : Nat) (kv : D × D) (e : MapEntry), kvs[i]? = some kv → es[i]? = some e → RepC S w kv.2 e.val) →
      RepC S w (.map kvs) (.map (some r))
  | nilmap : RepC S w .nilmap (.map none)
  | iface (t : TypeId) (d : D) (v : Value) : RepC S w d v → RepC S w (.iface t d) (.iface t v)
  | niliface : RepC S w .niliface .nilIface

/-- more blocks are published, and those of S are as they were -/
structure SExt (S : Nat → Prop) (w : World) (S' : Nat → Prop) (w' : World) : Prop where
  sub : ∀ b, S b → S' b
  same : ∀ b, S b → w'.heap[b]? = w.heap[b]?

theorem SExt.refl (S : Nat → Prop) (w : World) : SExt S w S w := ⟨fun _ h => h, fun _ _ => rfl⟩
theorem SExt.trans {S1 S2 S3 : Nat → Prop} {w1 w2 w3 : World} (h : SExt S1 w1 S2 w2) (k : SExt S2 w2 S3 w3) : SExt S1 w1 S3 w3 :=
  ⟨fun b hb => k.sub b (h.sub b hb), fun b hb => (k.same b (h.sub b hb)).trans (h.same b hb)⟩

theorem SExt.cell {S S' : Nat → Prop} {w w' : World} (h : SExt S w S' w') {b : Nat} (hb : S b) (off : Nat) : w'.cell? ⟨b, off, none⟩ = w.cell? ⟨b, off, none⟩ :=
  World.cell?_of_block (w := w) (h.same b hb)

theorem RepC.ext {S S' : Nat → Prop} {w w' : World} {d : D} {v : Value} (h : RepC S w d v) (e : SExt S w S' w') : RepC S' w' d v := by
  induction h with
  | int k n => exact .int k n
  | bool b => exact .bool b
  | str s hs => exact .str s hs
  | nil => exact .nil
  | emp a cap => exact .emp a cap
  | slice0 a cap h => exact .slice0 a cap h
  | slice rows b off cap sz hb h1 h2 h3 ho h4 _ ih =>
    refine .slice rows b off cap sz (e.sub b hb) h1 h2 h3 ho ?_ ?_
    · intro i j hi hj; rw [e.cell hb]; exact h4 i j hi hj
    · intro i j row d v hr hd hv; rw [e.cell hb] at hv; exact ih i j row d v hr hd hv
  | agg cells vs h1 ho _ ih => exact .agg cells vs h1 ho ih
  | ptr cells b hb ho h1 _ ih =>
    refine .ptr cells b (e.sub b hb) ho ?_ ?_
    · intro j hj; rw [e.cell hb]; exact h1 j hj
    · intro j d v hd hv; rw [e.cell hb] at hv; exact ih j d v hd hv
  | nilptr => exact .nilptr
  | map kvs r es clock hr hh hs _ _ ih1 ih2 => exact .map kvs r es clock (e.sub r hr) ((e.same r hr).trans hh) hs ih1 ih2
  | nilmap => exact .nilmap
  | iface t d v _ ih => exact .iface t d v ih
  | niliface => exact .niliface

/-- a bound that every reading gives -/
inductive D.Bd : D → Prop where
  | int (k : IntKind) (n : Int) : D.Bd (.int k n)
  | bool (b : Bool) : D.Bd (.bool b)
  | str (s : Str) : s.length ≤ lim → D.Bd (.str s)
  | nil : D.Bd .nil
  | emp : D.Bd .emp
  | slice (rows : List (List D)) : rows.length ≤ lim → (∀ (i j : Nat) (row : List D) (d : D), rows[i]? = some row → row[j]? = some d → D.Bd d) → D.Bd (.slice rows)
  | agg (cells : List D) : (∀ (j : Nat) (d : D), cells[j]? = some d → D.Bd d) → D.Bd (.agg cells)
  | ptr (cells : List D) : (∀ (j : Nat) (d : D), cells[j]? = some d → D.Bd d) → D.Bd (.ptr cells)
  | nilptr : D.Bd .nilptr
  | map (kvs : List (D × D)) : (∀ (i : Nat) (kv : D × D), kvs[i]? = some kv → D.Bd kv.1) → (∀ (i : Nat) (kv : D × D), kvs[i]? = some kv → D.Bd kv.2) → D.Bd (.map kvs)
  | nilmap : D.Bd .nilmap
  | iface (t : TypeId) (d : D) : D.Bd d → D.Bd (.iface t d)
  | niliface : D.Bd .niliface

theorem RepC.bd {S : Nat → Prop} {w : World} {d : D} {v : Value} (h : RepC S w d v) : d.Bd := by
  induction h with
  | int k n => exact .int k n
  | bool b => exact .bool b
  | str s hs => exact .str s hs
  | nil => exact .nil
  | emp a cap => exact .emp
  | slice0 a cap => exact .slice [] (by simp [lim]) (by simp)
  | slice rows b off cap sz hb h1 h2 h3 ho h4 _ ih =>
    refine .slice rows h1 ?_
    intro i j row d hr hd
    have hi : i < rows.length := (List.getElem?_eq_some_iff.1 hr).1
    have hj : j < sz := by
      have := h3 row (List.mem_of_getElem? hr)
      have := (List.getElem?_eq_some_iff.1 hd).1
      omega
    obtain ⟨v, hv⟩ := h4 i j hi hj
    exact ih i j row d v hr hd hv
  | agg cells vs h1 ho _ ih =>
    refine .agg cells ?_
    intro j d hd
    have hj : j < vs.length := by have := (List.getElem?_eq_some_iff.1 hd).1; omega
    exact ih j d vs[j] hd (List.getElem?_eq_getElem hj)
  | ptr cells b hb ho h1 _ ih =>
    refine .ptr cells ?_
    intro j d hd
    obtain ⟨v, hv⟩ := h1 j (List.getElem?_eq_some_iff.1 hd).1
    exact ih j d v hd hv
  | nilptr => exact .nilptr
  | map kvs r es clock hr hh hs _ _ ih1 ih2 =>
    have hs := hs.1
    refine .map kvs ?_ ?_
    · intro i kv h
      have hi : i < es.size := by have := (List.getElem?_eq_some_iff.1 h).1; omega
      exact ih1 i kv es[i] h (Array.getElem?_eq_getElem hi)
    · intro i kv h
      have hi : i < es.size := by have := (List.getElem?_eq_some_iff.1 h).1; omega
      exact ih2 i kv es[i] h (Array.getElem?_eq_getElem hi)
  | nilmap => exact .nilmap
  | iface t d v _ ih => exact .iface t d ih
  | niliface => exact .niliface

theorem RepC.one {S : Nat → Prop} {w : World} {d : D} {v : Value} (h : RepC S w d v) (hd : d.one = true) : v.oneCell' = true := by
  cases h <;> first | rfl | simp [D.one] at hd

/-- nil and empty slices read as the empty slice -/
theorem RepC.of_nil {S : Nat → Prop} {w : World} {v : Value} (h : RepC S w .nil v) : RepC S w (.slice []) v := by
  cases h; exact .slice0 none 0 (fun _ => rfl)
theorem RepC.of_emp {S : Nat → Prop} {w : World} {v : Value} (h : RepC S w .emp v) : RepC S w (.slice []) v := by
  cases h; exact .slice0 _ _ (by simp)
theorem RepC.empty_or {S : Nat → Prop} {w : World} {v : Value} (h : RepC S w (.slice []) v) : RepC S w .nil v ∨ RepC S w .emp v := by
  cases h with
  | slice0 a cap h =>
    cases a with
    | none => obtain rfl := h rfl; exact .inl .nil
    | some a => exact .inr (.emp a cap)
  | slice _ b off cap sz => exact .inr (.emp _ _)

end Go.Abs
