/- What each statement of layer 23 asks beside the law's own walk -/
import Derived.Test.YtaneedhchnaniaaGreatDoorKL23
import Derived.Test.YtaneedhchnaniaaGreatDoorKDec
import Derived.Test.YtaneedhchnaniaaGreatDoorKW13
import Derived.Carry
import Derived.ChangeOld
import Derived.ChangeSame
import Derived.ChangeVars
import Derived.Stop.Joined
import Derived.JoinedOf
import Derived.RowKitTokens
import Derived.SevenTiedAt
import Derived.Test.YtaneedhchnaniaaGreatDoorTie
import Derived.Test.YtaneedhchnaniaaGreatDoorCards
namespace Go.Proofs.YtaneedhchnaniaaGreatDoor
open Go Go.ChangeShapes Go.WideShapes Go.ChangeAt Go.RowKit Go.Abs
set_option linter.unusedVariables false
set_option maxRecDepth 100000
theorem own:ownKnob Tryz.prog.godebug=none:=by kernel_rfl
theorem laidOut:laidOutB Tryz.prog=true:=by kernel_rfl
theorem E9k {H:Type} {enc:TypeId × Value→H} {P:Program} {W:World} {t:TypeId} {v:Value} {d:DataW H} {ps:List MemPlace} (h:DataW.Trod enc P W 0 (fun _=>true) true t v d ps):∀x∈ps,x.block < W.heap.size:=by obtain⟨m,E⟩:=h;exact DataW.trod_lt m _ _ _ E
theorem G4s:mapsRowed Tryz.prog=true:=by kernel_rfl
theorem F2x:Tryz.prog.stopsHeard=true:=by kernel_rfl
theorem F3c:Tryz.prog.mayEnter=true:=by kernel_rfl
theorem F0c:Tryz.prog.liftsFinal=Rows.stencilPlainRow.lifted:=by kernel_rfl
theorem G4u:Tryz.prog.make=some Rows.stencilPlainRow.make:=by kernel_rfl
theorem F6p:Tryz.prog.funcs.any Func.goes=false:=by kernel_rfl
theorem G4c {P:Program} (h:P.funcs.any Func.goes=false)(f:FuncId):P.goes f=false:=by
 unfold Program.goes;rw [h,Vi,As6,List.any_eq_false];intro g _;cases E:P.funcs[g]? with
 |none=>simp
 |some fn =>have:=Array.any_eq_false.1 h g (X6.1 E).1;rw [(X6.1 E).2] at this;simpa using this
theorem G1r {c:OpenClaim} (hs:c.start=.entering):false=c.goesBy Tryz.prog:=by
 unfold OpenClaim.goesBy Program.goesAt Program.goesFrom;rw [hs];cases Tryz.prog.funcNamed c.func with
 |none=>rfl
 |some f=>simp only [Option.any_some,G4c F6p f,As6]
def E3h:Names:=fun _=>{ base:=none }
theorem E8x {P:Program} {f:FuncId} {args:List SV} (h:Ac P f args (B0 true)) {W:World} {vs:List Value} (I:Bm (Go.Abs.all W) W E3h args vs) {sy ra:TypeId × Value} (ht:∀b cs,A3d sy ra b cs→∃ty L,W.heap[b]? = some (.cells cs ty L)) :
  Calls P f ⟨vs⟩ W fun e E=>e=.returned (.bool true)∧Below W.heap.size W E:=by
 refine (h.calls I ht).mono ?_;rintro e E ⟨v,S',β',rfl,hr,J⟩;rw [hr.Vz];exact⟨rfl,J⟩
theorem F7r {H:Type} {P:Program} {t0:TypeId} {I:List TypeId} {d0:DataW H} {E:List (DataW H)} (h:(DataW.weightsEach P ([t0]++I) ([d0]++E)).all (·≤reachBytes)=true):∀k,k∈d0.weights P t0→k≤reachBytes:=by simp only [S9,Wa,DataW.weightsEach,Xw,B1,Cf,D8] at h;exact h.1
mutual
def C9z:DataW Unit→List Value
 |.agg ds=>E2c ds
 |.lit l=>[l.value]
 |_=>[]
def E2c:List (DataW Unit)→List Value
 |[]=>[]
 |d::ds=>C9z d++E2c ds
end
def B4g (d:DataW Unit):Array Value:=(C9z d).toArray
abbrev F5h:ByteArray:=⟨#[105,110,118,97,108,105,100,32,115,121,110,116,97,120]⟩
abbrev E9g:ByteArray:=⟨#[118,97,108,117,101,32,111,117,116,32,111,102,32,114,97,110,103,101]⟩
noncomputable def low:Nat:=(World.holding Tryz.prog default ⟨#[],#[],[]⟩).heap.size
noncomputable def C9c (os:Os):World :=
 let w0:=World.holding Tryz.prog os ⟨#[.cells #[.string F5h] 410,.cells #[.string E9g] 410],#[],[]⟩
 ((((((w0.setRow 0 B6k).setRow 6 (B4g Rows.laid_math_bits_deBruijn32tab)).setRow 7 (B4g Rows.laid_math_bits_deBruijn64tab)).setRow 3 (B4g Rows.laid_unicode_utf8_acceptRanges)).setRow 2 (B4g Rows.laid_unicode_utf8_first)).setRow 4 #[.iface 408 (.pointer (some ⟨low,0,none⟩))]).setRow 5 #[.iface 408 (.pointer (some ⟨low+1,0,none⟩))]
theorem F9f (os:Os)(args:Array Value):laidMetH Tryz.prog Rows.stencilPlainRow.laid ((C9c os).forCall (fun _ _=>0) ⟨#[],args,[]⟩).memory :=
 laidMetH_of_parts (laidMet_of_run' 8 (by kernel_rfl) (by kernel_rfl)) (by kernel_rfl)
end Go.Proofs.YtaneedhchnaniaaGreatDoor
