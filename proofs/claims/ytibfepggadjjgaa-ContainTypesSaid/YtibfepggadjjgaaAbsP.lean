/- What arguments give for nothing: bounds. Own framework, part P. -/
import Derived.Test.YtibfepggadjjgaaAbsO
namespace Go.Abs
open Go
variable {P : Program}

mutual
def SV.bd : SV → Prop
  | .d x => x.Bd
  | .agg cs => SV.bdL cs
  | .tuple cs => SV.bdL cs
  | .clo _ cs => SV.bdL cs
  | .dptr cells _ => ∀ d, d ∈ cells → d.Bd
  | .undef | .box _ _ | .acc _ | .aptr _ _ _ | .mp _ => True
def SV.bdL : List SV → Prop
  | [] => True
  | c :: cs => c.bd ∧ SV.bdL cs
end

mutual
theorem RepV.bd {S : Nat → Prop} {w : World} {β : Names} : ∀ {x : SV} {v : Value}, RepV S w β x v → x.bd
  | .d x, v, h => by simp only [SV.bd]; exact h.inv_d.bd
  | .agg cs, v, h => by cases h with | agg _ vs h1 _ h2 => simp only [SV.bd]; exact RepL.bd ⟨h1, h2⟩
  | .tuple cs, v, h => by cases h with | tuple _ vs h1 h2 => simp only [SV.bd]; exact RepL.bd ⟨h1, h2⟩
  | .clo f cs, v, h => by cases h with | clo _ _ vs h1 h2 => simp only [SV.bd]; exact RepL.bd ⟨h1, h2⟩
  | .dptr cells off, v, h => by
    obtain ⟨b, base, hp⟩ := h.inv_dptr
    simp only [SV.bd]
    intro d hd
    obtain ⟨j, hj⟩ := List.mem_iff_getElem?.1 hd
    obtain ⟨u, hu⟩ := hp.there j (List.getElem?_eq_some_iff.1 hj).1
    exact (hp.rep j d u hj hu).bd
  | .undef, v, h => by simp [SV.bd]
  | .box _ _, v, h => by simp [SV.bd]
  | .acc _, v, h => by simp [SV.bd]
  | .aptr _ _ _, v, h => by simp [SV.bd]
  | .mp _, v, h => by simp [SV.bd]
theorem RepL.bd {S : Nat → Prop} {w : World} {β : Names} : ∀ {cs : List SV} {vs : List Value}, RepL S w β cs vs → SV.bdL cs
  | [], _, _ => by simp [SV.bdL]
  | c :: cs, vs, h => by
    simp only [SV.bdL]
    obtain ⟨v, hv, hr⟩ := h.get (j := 0) (c := c) rfl
    cases vs with
    | nil => simp at hv
    | cons v vs => exact ⟨(h.2 0 c v rfl rfl).bd, RepL.bd ⟨by have := h.1; simpa using this, fun j c v hc hv => h.2 (j + 1) c v (by simpa using hc) (by simpa using hv)⟩⟩
end

theorem CallB.bd {f : FuncId} {args : List SV} {pre post : Boxes} {r : SV} (hE : Enters P f) (h : SV.bdL args → CallB P f args pre r post) : CallB P f args pre r post :=
  ⟨hE, fun C β vs hi hv => (h hv.bd).2 C β vs hi hv⟩

theorem Enters.of {f : FuncId} {fn : Func} {c : Code} (hf : P.funcs[f]? = some fn) (hb : fn.body = some c) (hn : (fn.name == "runtime.NumGoroutine") = false) : Enters P f := ⟨fn, hf, hn, by rw [hb]; rfl⟩

/-- a slot's data is bounded -/
theorem AWp.slotBd {n : Nat} {Q : Exit → SL → Boxes → Prop} {sl : SL} {bx : Boxes} {c : Code} (t : Nat) (h : (sget sl t).bd → AWp P n c Q sl bx) : AWp P n c Q sl bx :=
  fun C S w β a hs => h (hs.slot t).bd C S w β a hs


/-- how a call ends that leaves boxes to the caller -/
def retB (P : Program) (fn : Func) (r : SV) (post : Boxes) (e : Exit) (sl : SL) (bx : Boxes) : Prop :=
  match e with
  | .normal | .ret => ∃ xs, resL P bx sl fn.results.toList = some xs ∧ (wrapRes xs = r ∨ coerce [] (wrapRes xs) = some r) ∧ ble bx post
  | _ => False

theorem CallB.of_body {f : FuncId} {fn : Func} {c : Code} {args : List SV} {pre post : Boxes} {r : SV} (hf : P.funcs[f]? = some fn) (hb : fn.body = some c) (hn : (fn.name == "runtime.NumGoroutine") = false) (hm : args.length ≤ fn.ntmps)
    (h : AWp P fn.ntmps c (retB P fn r post) (argSl 0 args) pre) : CallB P f args pre r post := by
  refine ⟨⟨fn, hf, hn, by rw [hb]; rfl⟩, ?_⟩
  intro C β vs hi hv
  refine calls_of_wp hf hb ?_
  refine wp_mono (h C C.S0 C.w0 β _ (St.start hi hv hm)) ?_
  rintro e a' w' ⟨sl', bx', S', β', q, hs⟩
  have key : (∃ xs, resL P bx' sl' fn.results.toList = some xs ∧ (wrapRes xs = r ∨ coerce [] (wrapRes xs) = some r) ∧ ble bx' post) → a'.defers = [] ∧ ∃ v, (results fn a'.tmps).run P w' = .ok v w' ∧
      ∃ v' S'' β'', Ending.returned v = .returned v' ∧ Inv C S'' w' β'' post ∧ RepV S'' w' β'' r v' := by
    rintro ⟨xs, h1, h2, h5⟩
    obtain ⟨v, h3, h4⟩ := run_results (P := P) hs h1
    refine ⟨hs.defers, v, h3, v, S', β', rfl, hs.inv.sub (ble_mem h5), ?_⟩
    rcases h2 with rfl | h2
    · exact h4
    · exact (coerce_rep (hs.inv.sub (bx' := []) (by simp)) (SExt.refl _ _) (by simp) h2 h4).1
  cases e with
  | normal => exact key q
  | ret => exact key q
  | _ => exact q.elim

section steps
variable {n : Nat} {Q : Exit → SL → Boxes → Prop} {sl : SL} {bx : Boxes}

/-- one piece of code, then the rest, which stays out of sight -/
theorem AWp.seqK {x y : Code} (h : ∀ K : SL → Boxes → Prop, (∀ sl' bx', AWp P n y Q sl' bx' → K sl' bx') → AWp P n x (thenA K Q) sl bx) : AWp P n (.seq x y) Q sl bx :=
  AWp.seq (h _ fun _ _ h => h)

theorem AWp.seqR {id : Nat} {ops : Array Oper} {y : Code} (ks own : List Nat) (hd : dstsOK n ops.toList = true)
    (h : ∀ K : SL → Boxes → Prop, (∀ sl' bx', AWp P n y Q sl' bx' → K sl' bx') → runV P own ops ops.toList sl bx (keepK ks K)) : AWp P n (.seq (.region id ops false) y) Q sl bx :=
  AWp.seq (AWp.reg ks own hd (h _ fun _ _ h => h))

theorem AWp.lastR {id : Nat} {ops : Array Oper} (ks own : List Nat) (hd : dstsOK n ops.toList = true)
    (h : ∀ K : SL → Boxes → Prop, (∀ sl' bx', Q .normal sl' bx' → K sl' bx') → runV P own ops ops.toList sl bx (keepK ks K)) : AWp P n (.region id ops false) Q sl bx :=
  AWp.reg ks own hd (h _ fun _ _ h => h)

theorem AWp.seqD {id : Nat} {ops : Array Oper} {y : Code} (ks own : List Nat) (m : Nat) (hm : P.follows .mixedOrders = true) (hc : drawOK ops m (Region.before ops) = true) (hd : dstsOK n ops.toList = true)
    (h : ∀ K : SL → Boxes → Prop, (∀ sl' bx', AWp P n y Q sl' bx' → K sl' bx') → qrunV P own ops bx (ops.toList.take m) sl (tailV P own ops (ops.toList.drop m) bx (keepK ks K))) :
    AWp P n (.seq (.region id ops true) y) Q sl bx :=
  AWp.seq (AWp.regD ks own m hm hc hd (h _ fun _ _ h => h))

theorem AWp.lastD {id : Nat} {ops : Array Oper} (ks own : List Nat) (m : Nat) (hm : P.follows .mixedOrders = true) (hc : drawOK ops m (Region.before ops) = true) (hd : dstsOK n ops.toList = true)
    (h : ∀ K : SL → Boxes → Prop, (∀ sl' bx', Q .normal sl' bx' → K sl' bx') → qrunV P own ops bx (ops.toList.take m) sl (tailV P own ops (ops.toList.drop m) bx (keepK ks K))) :
    AWp P n (.region id ops true) Q sl bx :=
  AWp.regD ks own m hm hc hd (h _ fun _ _ h => h)

theorem AWp.condT {c : Operand} {x y : Code} (hc : opnd sl c = .d (.bool true)) (h : AWp P n x Q sl bx) : AWp P n (.cond c x y) Q sl bx := AWp.cond hc (fun _ => h) (by simp)
theorem AWp.condF {c : Operand} {x y : Code} (hc : opnd sl c = .d (.bool false)) (h : AWp P n y Q sl bx) : AWp P n (.cond c x y) Q sl bx := AWp.cond hc (by simp) (fun _ => h)
end steps

end Go.Abs
