/- What each statement of layer 23 asks beside the law's own walk -/
import Derived.Test.YtfjaahliphbklaaGreatDoorJL23
import Derived.Test.YtfjaahliphbklaaGreatDoorJDec
import Derived.Test.YtfjaahliphbklaaGreatDoorJW13
import Derived.Carry
import Derived.ChangeOld
import Derived.ChangeSame
import Derived.ChangeVars
import Derived.Stop.Joined
import Derived.JoinedOf
import Derived.RowKitTokens
import Derived.SevenTiedAt
import Derived.Test.YtfjaahliphbklaaGreatDoorTie
import Derived.Test.YtfjaahliphbklaaGreatDoorCards
namespace Go.Proofs.YtfjaahliphbklaaGreatDoor
open Go Go.ChangeShapes Go.WideShapes Go.ChangeAt Go.RowKit Go.Abs
set_option linter.unusedVariables false
set_option maxRecDepth 100000
theorem own:ownKnob Tryz.prog.godebug=none:=by kernel_rfl
theorem laidOut:laidOutB Tryz.prog=true:=by kernel_rfl
theorem C5m {H:Type} {enc:TypeId × Value→H} {P:Program} {W:World} {t:TypeId} {v:Value} {d:DataW H} {ps:List MemPlace} (h:DataW.Trod enc P W 0 (fun _=>true) true t v d ps):∀ x∈ps,x.block < W.heap.size:=by obtain⟨m,hm⟩:=h;exact DataW.trod_lt m _ _ _ hm
theorem F7z:mapsRowed Tryz.prog=true:=by kernel_rfl
theorem F1n:Tryz.prog.stopsHeard=true:=by kernel_rfl
theorem F1o:Tryz.prog.mayEnter=true:=by kernel_rfl
theorem E7s:Tryz.prog.liftsFinal=Rows.stencilMatchesReferenceRow.lifted:=by kernel_rfl
theorem F7h:Tryz.prog.make=some Rows.stencilMatchesReferenceRow.make:=by kernel_rfl
theorem F9d:Tryz.prog.funcs.any Func.goes=false:=by kernel_rfl
theorem E6q {P:Program} (h:P.funcs.any Func.goes=false)(f:FuncId):P.goes f=false:=by
 unfold Program.goes;rw [h,Bool.and_false,Bool.or_false,List.any_eq_false];intro g _;cases hg:P.funcs[g]? with
 | none=>simp
 | some fn =>have:=Array.any_eq_false.1 h g (Array.getElem?_eq_some_iff.1 hg).1;rw [(Array.getElem?_eq_some_iff.1 hg).2] at this;simpa using this
theorem E1a {c:OpenClaim} (hs:c.start=.entering):false=c.goesBy Tryz.prog:=by
 unfold OpenClaim.goesBy Program.goesAt Program.goesFrom;rw [hs];cases Tryz.prog.funcNamed c.func with
 | none=>rfl
 | some f=>simp only [Option.any_some,E6q F9d f,Bool.or_false]
def D8d:A0y:=fun _=>{ base:=none }
theorem D0y {P:Program} {f:FuncId} {args:List SV} (h:A0a P f args (A0m true)) {W:World} {vs:List Value} (hv:A3e (Go.Abs.all W) W D8d args vs) {sy ra:TypeId × Value} (ht:∀ b cs,A9w sy ra b cs→∃ ty fr,W.heap[b]? = some (.cells cs ty fr)) :
  Calls P f ⟨vs⟩ W fun e W'=>e=.returned (.bool true)∧Below W.heap.size W W':=by
 refine (h.calls hv ht).mono ?_;rintro e W' ⟨v,S',β',rfl,hr,hb⟩;rw [hr.inv_bool];exact⟨rfl,hb⟩
theorem C0m {H:Type} {P:Program} {t0:TypeId} {ts:List TypeId} {d0:DataW H} {gs:List (DataW H)} (h:(DataW.weightsEach P ([t0]++ts) ([d0]++gs)).all (·≤reachBytes)=true):∀ k,k∈d0.weights P t0→k≤reachBytes:=by simp only [List.cons_append,List.nil_append,DataW.weightsEach,List.all_append,Bool.and_eq_true,List.all_eq_true,decide_eq_true_eq] at h;exact h.1
mutual
def E8w:DataW Unit→List Value
 | .agg ds=>E0s ds
 | .lit l=>[l.value]
 | _=>[]
def E0s:List (DataW Unit)→List Value
 | []=>[]
 | d::ds=>E8w d++E0s ds
end
def B9x (d:DataW Unit):Array Value:=(E8w d).toArray
abbrev G5z:ByteArray:=⟨#[105,110,118,97,108,105,100,32,115,121,110,116,97,120]⟩
abbrev G6b:ByteArray:=⟨#[118,97,108,117,101,32,111,117,116,32,111,102,32,114,97,110,103,101]⟩
noncomputable def low:Nat:=(World.holding Tryz.prog default ⟨#[],#[],[]⟩).heap.size
noncomputable def C3n (os:Os):World :=
 let w0:=World.holding Tryz.prog os ⟨#[.cells #[.string G5z] 329,.cells #[.string G6b] 329],#[],[]⟩
 ((((((w0.setRow 0 F3v).setRow 6 (B9x Rows.laid_math_bits_deBruijn32tab)).setRow 7 (B9x Rows.laid_math_bits_deBruijn64tab)).setRow 5 (B9x Rows.laid_unicode_utf8_acceptRanges)).setRow 4 (B9x Rows.laid_unicode_utf8_first)).setRow 1 #[.iface 327 (.pointer (some ⟨low,0,none⟩))]).setRow 2 #[.iface 327 (.pointer (some ⟨low+1,0,none⟩))]
theorem B6i (os:Os)(args:Array Value):laidMetH Tryz.prog Rows.stencilMatchesReferenceRow.laid ((C3n os).forCall (fun _ _=>0) ⟨#[],args,[]⟩).memory :=
 laidMetH_of_parts (laidMet_of_run' 8 (by kernel_rfl) (by kernel_rfl)) (by kernel_rfl)
end Go.Proofs.YtfjaahliphbklaaGreatDoor
